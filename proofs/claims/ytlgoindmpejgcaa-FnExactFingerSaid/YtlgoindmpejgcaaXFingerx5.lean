-- printed by a program of this session (xprint, turned from the kit's print) for this claim
import Derived.Test.YtlgoindmpejgcaaXFingerx0
import Derived.Test.YtlgoindmpejgcaaXFingerx1
import Derived.Test.YtlgoindmpejgcaaXFingerx2
import Derived.Test.YtlgoindmpejgcaaXFingerx3
import Derived.Test.YtlgoindmpejgcaaXFingerx4
namespace Go.Proofs.Ytlgoindmpejgcaa.XFinger
open Go.RowKit Go.Proofs.Ytlgoindmpejgcaa.XOpens Go.Proofs.YtlgoindmpejgcaaW.PrintWords Go.Proofs.YtlgoindmpejgcaaW.PrintLast Go.Proofs.YtlgoindmpejgcaaW.PrintMore
attribute [local go_sem] max2_int min2_int max_two min_two max_three min_three max_four min_four   -- for this text's walks alone
set_option linter.unusedVariables false
set_option linter.unusedSimpArgs false

/-! ### laws_FnExactFinger: function 13 -/
mutual
def laws_FnExactFinger.j0 : Nat → List (L_Sym) → Int → Int → Int → List (L_Term) → Option (Bool)
  | 0, _, _, _, _, _ => none
  | k + 1, x0, x5, x199000, x199001, x199002 => (laws_szTerm.f k x199000 x199001 x199002 x5).bind fun t200 => (if t200 < 0 then (some true) else (laws_FnExactFinger.j1 k x0 x199000 x199001 x199002))
def laws_FnExactFinger.j1 : Nat → List (L_Sym) → Int → Int → List (L_Term) → Option (Bool)
  | 0, _, _, _, _ => none
  | k + 1, x0, x199000, x199001, x199002 => (laws_toSymS.f k x0).bind fun t201 => ((laws_toTerm.f k x199000 x199001 x199002).bind fun bt204 => ((spec_Finger.f k t201 bt204.1 bt204.2.1 bt204.2.2).bind fun t209 => ((laws_toSymS.f k x0).bind fun t212 => ((laws_toTerm.f k x199000 x199001 x199002).bind fun bt215 => ((impl_Finger.f k t212 bt215.1 bt215.2.1 bt215.2.2).bind fun t221 => ((laws_eqIntS.f k t221 t209).bind fun t224 => (if t224 = true then (laws_FnExactFinger.j2 k x0 t209 t212 t221 x199000 x199001 x199002 bt215.1 bt215.2.1 bt215.2.2) else (some false))))))))
def laws_FnExactFinger.j2 : Nat → List (L_Sym) → List Int → List (I_Sym) → List Int → Int → Int → List (L_Term) → Int → Int → List (I_Term) → Option (Bool)
  | 0, _, _, _, _, _, _, _, _, _, _ => none
  | k + 1, x0, x6, x7, x9, x199000, x199001, x199002, x221000, x221001, x221002 => (laws_toSymS.f k x0).bind fun t225 => ((laws_eqSymS.f k x7 t225).bind fun t228 => (if t228 = true then (laws_FnExactFinger.j3 k x0 x6 x7 x9 x199000 x199001 x199002 x221000 x221001 x221002) else (some false)))
def laws_FnExactFinger.j3 : Nat → List (L_Sym) → List Int → List (I_Sym) → List Int → Int → Int → List (L_Term) → Int → Int → List (I_Term) → Option (Bool)
  | 0, _, _, _, _, _, _, _, _, _, _ => none
  | k + 1, x0, x6, x7, x9, x199000, x199001, x199002, x221000, x221001, x221002 => (laws_toTerm.f k x199000 x199001 x199002).bind fun bt229 => ((laws_eqTerm.f k x221000 x221001 x221002 bt229.1 bt229.2.1 bt229.2.2).bind fun t234 => (if t234 = true then (laws_FnExactFinger.j4 k x0 x6 x7 x9 x199000 x199001 x199002 x221000 x221001 x221002) else (some false)))
def laws_FnExactFinger.j4 : Nat → List (L_Sym) → List Int → List (I_Sym) → List Int → Int → Int → List (L_Term) → Int → Int → List (I_Term) → Option (Bool)
  | 0, _, _, _, _, _, _, _, _, _, _ => none
  | k + 1, x0, x6, x7, x9, x199000, x199001, x199002, x221000, x221001, x221002 => (laws_markSymS.f k x7 1).bind fun bt235 => ((laws_markTerm.f k x221000 x221001 x221002 bt235.1).bind fun t237 => (if t237 < 0 then (laws_FnExactFinger.j5 k x0 x6 x9 true x199000 x199001 x199002) else ((laws_eqIntS.f k x9 x6).bind fun t238 => (laws_FnExactFinger.j5 k x0 x6 x9 (!t238) x199000 x199001 x199002))))
def laws_FnExactFinger.j5 : Nat → List (L_Sym) → List Int → List Int → Bool → Int → Int → List (L_Term) → Option (Bool)
  | 0, _, _, _, _, _, _, _ => none
  | k + 1, x0, x6, x9, x63, x199000, x199001, x199002 => if x63 = true then (some false) else (laws_FnExactFinger.j6 k x0 x6 x9 x199000 x199001 x199002)
def laws_FnExactFinger.j6 : Nat → List (L_Sym) → List Int → List Int → Int → Int → List (L_Term) → Option (Bool)
  | 0, _, _, _, _, _, _ => none
  | k + 1, x0, x6, x9, x199000, x199001, x199002 => (laws_markIntS.f k x9 1).bind fun bt239 => ((laws_heldIntS.f k bt239.2 1).bind fun t241 => (if t241 < 0 then (some false) else (laws_FnExactFinger.j7 k x0 x6 bt239.2 bt239.1 t241 x199000 x199001 x199002)))
def laws_FnExactFinger.j7 : Nat → List (L_Sym) → List Int → List Int → Int → Int → Int → Int → List (L_Term) → Option (Bool)
  | 0, _, _, _, _, _, _, _, _ => none
  | k + 1, x0, x6, x9, x11, x12, x199000, x199001, x199002 => if x12 = x11 then (laws_FnExactFinger.j8 k x0 x6 x9 x11 x199000 x199001 x199002) else (some false)
def laws_FnExactFinger.j8 : Nat → List (L_Sym) → List Int → List Int → Int → Int → Int → List (L_Term) → Option (Bool)
  | 0, _, _, _, _, _, _, _ => none
  | k + 1, x0, x6, x9, x11, x199000, x199001, x199002 => (laws_toSymS.f k x0).bind fun t242 => ((laws_toTerm.f k x199000 x199001 x199002).bind fun bt245 => ((impl_Finger.f k t242 bt245.1 bt245.2.1 bt245.2.2).bind fun t250 => ((laws_eqIntS.f k t250 x6).bind fun t253 => (if t253 = true then (laws_FnExactFinger.j9 k x9 x11) else (some false)))))
def laws_FnExactFinger.j9 : Nat → List Int → Int → Option (Bool)
  | 0, _, _ => none
  | k + 1, x9, x11 => (laws_heldIntS.f k x9 1).bind fun t254 => (if t254 < 0 then (some false) else (if t254 = x11 then (some true) else (some false)))
end
def laws_FnExactFinger.f (k : Nat) (l0 : List (L_Sym)) (a1_0 : Int) (a1_1 : Int) (l1_2 : List (L_Term)) : Option (Bool) := (laws_szSymS.f k l0 1048576).bind fun t199 => (if t199 < 0 then (some true) else (laws_FnExactFinger.j0 k l0 t199 a1_0 a1_1 l1_2))
theorem laws_FnExactFinger.mono_l : ∀ k, (∀ y0 y1 y2 y3 y4, LeO (laws_FnExactFinger.j0 k y0 y1 y2 y3 y4) (laws_FnExactFinger.j0 (k + 1) y0 y1 y2 y3 y4)) ∧ (∀ y0 y1 y2 y3, LeO (laws_FnExactFinger.j1 k y0 y1 y2 y3) (laws_FnExactFinger.j1 (k + 1) y0 y1 y2 y3)) ∧ (∀ y0 y1 y2 y3 y4 y5 y6 y7 y8 y9, LeO (laws_FnExactFinger.j2 k y0 y1 y2 y3 y4 y5 y6 y7 y8 y9) (laws_FnExactFinger.j2 (k + 1) y0 y1 y2 y3 y4 y5 y6 y7 y8 y9)) ∧ (∀ y0 y1 y2 y3 y4 y5 y6 y7 y8 y9, LeO (laws_FnExactFinger.j3 k y0 y1 y2 y3 y4 y5 y6 y7 y8 y9) (laws_FnExactFinger.j3 (k + 1) y0 y1 y2 y3 y4 y5 y6 y7 y8 y9)) ∧ (∀ y0 y1 y2 y3 y4 y5 y6 y7 y8 y9, LeO (laws_FnExactFinger.j4 k y0 y1 y2 y3 y4 y5 y6 y7 y8 y9) (laws_FnExactFinger.j4 (k + 1) y0 y1 y2 y3 y4 y5 y6 y7 y8 y9)) ∧ (∀ y0 y1 y2 y3 y4 y5 y6, LeO (laws_FnExactFinger.j5 k y0 y1 y2 y3 y4 y5 y6) (laws_FnExactFinger.j5 (k + 1) y0 y1 y2 y3 y4 y5 y6)) ∧ (∀ y0 y1 y2 y3 y4 y5, LeO (laws_FnExactFinger.j6 k y0 y1 y2 y3 y4 y5) (laws_FnExactFinger.j6 (k + 1) y0 y1 y2 y3 y4 y5)) ∧ (∀ y0 y1 y2 y3 y4 y5 y6 y7, LeO (laws_FnExactFinger.j7 k y0 y1 y2 y3 y4 y5 y6 y7) (laws_FnExactFinger.j7 (k + 1) y0 y1 y2 y3 y4 y5 y6 y7)) ∧ (∀ y0 y1 y2 y3 y4 y5 y6, LeO (laws_FnExactFinger.j8 k y0 y1 y2 y3 y4 y5 y6) (laws_FnExactFinger.j8 (k + 1) y0 y1 y2 y3 y4 y5 y6)) ∧ (∀ y0 y1, LeO (laws_FnExactFinger.j9 k y0 y1) (laws_FnExactFinger.j9 (k + 1) y0 y1))
  | 0 => ⟨fun _ _ _ _ _ r h => by simp [laws_FnExactFinger.j0] at h, fun _ _ _ _ r h => by simp [laws_FnExactFinger.j1] at h, fun _ _ _ _ _ _ _ _ _ _ r h => by simp [laws_FnExactFinger.j2] at h, fun _ _ _ _ _ _ _ _ _ _ r h => by simp [laws_FnExactFinger.j3] at h, fun _ _ _ _ _ _ _ _ _ _ r h => by simp [laws_FnExactFinger.j4] at h, fun _ _ _ _ _ _ _ r h => by simp [laws_FnExactFinger.j5] at h, fun _ _ _ _ _ _ r h => by simp [laws_FnExactFinger.j6] at h, fun _ _ _ _ _ _ _ _ r h => by simp [laws_FnExactFinger.j7] at h, fun _ _ _ _ _ _ _ r h => by simp [laws_FnExactFinger.j8] at h, fun _ _ r h => by simp [laws_FnExactFinger.j9] at h⟩
  | k + 1 => by
    obtain ⟨ih0, ih1, ih2, ih3, ih4, ih5, ih6, ih7, ih8, ih9⟩ := laws_FnExactFinger.mono_l k; refine ⟨?_, ?_, ?_, ?_, ?_, ?_, ?_, ?_, ?_, ?_⟩
    · intro y0 y1 y2 y3 y4
      unfold laws_FnExactFinger.j0
      repeat' first | (with_reducible first | exact ih0 _ _ _ _ _ | exact ih1 _ _ _ _ | exact ih2 _ _ _ _ _ _ _ _ _ _ | exact ih3 _ _ _ _ _ _ _ _ _ _ | exact ih4 _ _ _ _ _ _ _ _ _ _ | exact ih5 _ _ _ _ _ _ _ | exact ih6 _ _ _ _ _ _ | exact ih7 _ _ _ _ _ _ _ _ | exact ih8 _ _ _ _ _ _ _ | exact ih9 _ _ | exact impl_Finger.mono _ _ _ _ _ | exact laws_eqIntS.mono _ _ _ | exact laws_eqSymS.mono _ _ _ | exact laws_eqTerm.mono _ _ _ _ _ _ _ | exact laws_heldIntS.mono _ _ _ | exact laws_markIntS.mono _ _ _ | exact laws_markSymS.mono _ _ _ | exact laws_markTerm.mono _ _ _ _ _ | exact laws_szSymS.mono _ _ _ | exact laws_szTerm.mono _ _ _ _ _ | exact laws_toSymS.mono _ _ | exact laws_toTerm.mono _ _ _ _ | exact spec_Finger.mono _ _ _ _ _ | exact LeO.refl _ | exact LeO.none _ | refine LeO.ite ?_ ?_ | refine LeO.bind ?_ (fun _ => ?_)) | exact ih0 _ _ _ _ _ | exact ih1 _ _ _ _ | exact ih2 _ _ _ _ _ _ _ _ _ _ | exact ih3 _ _ _ _ _ _ _ _ _ _ | exact ih4 _ _ _ _ _ _ _ _ _ _ | exact ih5 _ _ _ _ _ _ _ | exact ih6 _ _ _ _ _ _ | exact ih7 _ _ _ _ _ _ _ _ | exact ih8 _ _ _ _ _ _ _ | exact ih9 _ _ | exact impl_Finger.mono _ _ _ _ _ | exact laws_eqIntS.mono _ _ _ | exact laws_eqSymS.mono _ _ _ | exact laws_eqTerm.mono _ _ _ _ _ _ _ | exact laws_heldIntS.mono _ _ _ | exact laws_markIntS.mono _ _ _ | exact laws_markSymS.mono _ _ _ | exact laws_markTerm.mono _ _ _ _ _ | exact laws_szSymS.mono _ _ _ | exact laws_szTerm.mono _ _ _ _ _ | exact laws_toSymS.mono _ _ | exact laws_toTerm.mono _ _ _ _ | exact spec_Finger.mono _ _ _ _ _ | exact LeO.none _ | refine LeO.ite ?_ ?_ | refine LeO.bind ?_ (fun _ => ?_)
    · intro y0 y1 y2 y3
      unfold laws_FnExactFinger.j1
      repeat' first | (with_reducible first | exact ih0 _ _ _ _ _ | exact ih1 _ _ _ _ | exact ih2 _ _ _ _ _ _ _ _ _ _ | exact ih3 _ _ _ _ _ _ _ _ _ _ | exact ih4 _ _ _ _ _ _ _ _ _ _ | exact ih5 _ _ _ _ _ _ _ | exact ih6 _ _ _ _ _ _ | exact ih7 _ _ _ _ _ _ _ _ | exact ih8 _ _ _ _ _ _ _ | exact ih9 _ _ | exact impl_Finger.mono _ _ _ _ _ | exact laws_eqIntS.mono _ _ _ | exact laws_eqSymS.mono _ _ _ | exact laws_eqTerm.mono _ _ _ _ _ _ _ | exact laws_heldIntS.mono _ _ _ | exact laws_markIntS.mono _ _ _ | exact laws_markSymS.mono _ _ _ | exact laws_markTerm.mono _ _ _ _ _ | exact laws_szSymS.mono _ _ _ | exact laws_szTerm.mono _ _ _ _ _ | exact laws_toSymS.mono _ _ | exact laws_toTerm.mono _ _ _ _ | exact spec_Finger.mono _ _ _ _ _ | exact LeO.refl _ | exact LeO.none _ | refine LeO.ite ?_ ?_ | refine LeO.bind ?_ (fun _ => ?_)) | exact ih0 _ _ _ _ _ | exact ih1 _ _ _ _ | exact ih2 _ _ _ _ _ _ _ _ _ _ | exact ih3 _ _ _ _ _ _ _ _ _ _ | exact ih4 _ _ _ _ _ _ _ _ _ _ | exact ih5 _ _ _ _ _ _ _ | exact ih6 _ _ _ _ _ _ | exact ih7 _ _ _ _ _ _ _ _ | exact ih8 _ _ _ _ _ _ _ | exact ih9 _ _ | exact impl_Finger.mono _ _ _ _ _ | exact laws_eqIntS.mono _ _ _ | exact laws_eqSymS.mono _ _ _ | exact laws_eqTerm.mono _ _ _ _ _ _ _ | exact laws_heldIntS.mono _ _ _ | exact laws_markIntS.mono _ _ _ | exact laws_markSymS.mono _ _ _ | exact laws_markTerm.mono _ _ _ _ _ | exact laws_szSymS.mono _ _ _ | exact laws_szTerm.mono _ _ _ _ _ | exact laws_toSymS.mono _ _ | exact laws_toTerm.mono _ _ _ _ | exact spec_Finger.mono _ _ _ _ _ | exact LeO.none _ | refine LeO.ite ?_ ?_ | refine LeO.bind ?_ (fun _ => ?_)
    · intro y0 y1 y2 y3 y4 y5 y6 y7 y8 y9
      unfold laws_FnExactFinger.j2
      repeat' first | (with_reducible first | exact ih0 _ _ _ _ _ | exact ih1 _ _ _ _ | exact ih2 _ _ _ _ _ _ _ _ _ _ | exact ih3 _ _ _ _ _ _ _ _ _ _ | exact ih4 _ _ _ _ _ _ _ _ _ _ | exact ih5 _ _ _ _ _ _ _ | exact ih6 _ _ _ _ _ _ | exact ih7 _ _ _ _ _ _ _ _ | exact ih8 _ _ _ _ _ _ _ | exact ih9 _ _ | exact impl_Finger.mono _ _ _ _ _ | exact laws_eqIntS.mono _ _ _ | exact laws_eqSymS.mono _ _ _ | exact laws_eqTerm.mono _ _ _ _ _ _ _ | exact laws_heldIntS.mono _ _ _ | exact laws_markIntS.mono _ _ _ | exact laws_markSymS.mono _ _ _ | exact laws_markTerm.mono _ _ _ _ _ | exact laws_szSymS.mono _ _ _ | exact laws_szTerm.mono _ _ _ _ _ | exact laws_toSymS.mono _ _ | exact laws_toTerm.mono _ _ _ _ | exact spec_Finger.mono _ _ _ _ _ | exact LeO.refl _ | exact LeO.none _ | refine LeO.ite ?_ ?_ | refine LeO.bind ?_ (fun _ => ?_)) | exact ih0 _ _ _ _ _ | exact ih1 _ _ _ _ | exact ih2 _ _ _ _ _ _ _ _ _ _ | exact ih3 _ _ _ _ _ _ _ _ _ _ | exact ih4 _ _ _ _ _ _ _ _ _ _ | exact ih5 _ _ _ _ _ _ _ | exact ih6 _ _ _ _ _ _ | exact ih7 _ _ _ _ _ _ _ _ | exact ih8 _ _ _ _ _ _ _ | exact ih9 _ _ | exact impl_Finger.mono _ _ _ _ _ | exact laws_eqIntS.mono _ _ _ | exact laws_eqSymS.mono _ _ _ | exact laws_eqTerm.mono _ _ _ _ _ _ _ | exact laws_heldIntS.mono _ _ _ | exact laws_markIntS.mono _ _ _ | exact laws_markSymS.mono _ _ _ | exact laws_markTerm.mono _ _ _ _ _ | exact laws_szSymS.mono _ _ _ | exact laws_szTerm.mono _ _ _ _ _ | exact laws_toSymS.mono _ _ | exact laws_toTerm.mono _ _ _ _ | exact spec_Finger.mono _ _ _ _ _ | exact LeO.none _ | refine LeO.ite ?_ ?_ | refine LeO.bind ?_ (fun _ => ?_)
    · intro y0 y1 y2 y3 y4 y5 y6 y7 y8 y9
      unfold laws_FnExactFinger.j3
      repeat' first | (with_reducible first | exact ih0 _ _ _ _ _ | exact ih1 _ _ _ _ | exact ih2 _ _ _ _ _ _ _ _ _ _ | exact ih3 _ _ _ _ _ _ _ _ _ _ | exact ih4 _ _ _ _ _ _ _ _ _ _ | exact ih5 _ _ _ _ _ _ _ | exact ih6 _ _ _ _ _ _ | exact ih7 _ _ _ _ _ _ _ _ | exact ih8 _ _ _ _ _ _ _ | exact ih9 _ _ | exact impl_Finger.mono _ _ _ _ _ | exact laws_eqIntS.mono _ _ _ | exact laws_eqSymS.mono _ _ _ | exact laws_eqTerm.mono _ _ _ _ _ _ _ | exact laws_heldIntS.mono _ _ _ | exact laws_markIntS.mono _ _ _ | exact laws_markSymS.mono _ _ _ | exact laws_markTerm.mono _ _ _ _ _ | exact laws_szSymS.mono _ _ _ | exact laws_szTerm.mono _ _ _ _ _ | exact laws_toSymS.mono _ _ | exact laws_toTerm.mono _ _ _ _ | exact spec_Finger.mono _ _ _ _ _ | exact LeO.refl _ | exact LeO.none _ | refine LeO.ite ?_ ?_ | refine LeO.bind ?_ (fun _ => ?_)) | exact ih0 _ _ _ _ _ | exact ih1 _ _ _ _ | exact ih2 _ _ _ _ _ _ _ _ _ _ | exact ih3 _ _ _ _ _ _ _ _ _ _ | exact ih4 _ _ _ _ _ _ _ _ _ _ | exact ih5 _ _ _ _ _ _ _ | exact ih6 _ _ _ _ _ _ | exact ih7 _ _ _ _ _ _ _ _ | exact ih8 _ _ _ _ _ _ _ | exact ih9 _ _ | exact impl_Finger.mono _ _ _ _ _ | exact laws_eqIntS.mono _ _ _ | exact laws_eqSymS.mono _ _ _ | exact laws_eqTerm.mono _ _ _ _ _ _ _ | exact laws_heldIntS.mono _ _ _ | exact laws_markIntS.mono _ _ _ | exact laws_markSymS.mono _ _ _ | exact laws_markTerm.mono _ _ _ _ _ | exact laws_szSymS.mono _ _ _ | exact laws_szTerm.mono _ _ _ _ _ | exact laws_toSymS.mono _ _ | exact laws_toTerm.mono _ _ _ _ | exact spec_Finger.mono _ _ _ _ _ | exact LeO.none _ | refine LeO.ite ?_ ?_ | refine LeO.bind ?_ (fun _ => ?_)
    · intro y0 y1 y2 y3 y4 y5 y6 y7 y8 y9
      unfold laws_FnExactFinger.j4
      repeat' first | (with_reducible first | exact ih0 _ _ _ _ _ | exact ih1 _ _ _ _ | exact ih2 _ _ _ _ _ _ _ _ _ _ | exact ih3 _ _ _ _ _ _ _ _ _ _ | exact ih4 _ _ _ _ _ _ _ _ _ _ | exact ih5 _ _ _ _ _ _ _ | exact ih6 _ _ _ _ _ _ | exact ih7 _ _ _ _ _ _ _ _ | exact ih8 _ _ _ _ _ _ _ | exact ih9 _ _ | exact impl_Finger.mono _ _ _ _ _ | exact laws_eqIntS.mono _ _ _ | exact laws_eqSymS.mono _ _ _ | exact laws_eqTerm.mono _ _ _ _ _ _ _ | exact laws_heldIntS.mono _ _ _ | exact laws_markIntS.mono _ _ _ | exact laws_markSymS.mono _ _ _ | exact laws_markTerm.mono _ _ _ _ _ | exact laws_szSymS.mono _ _ _ | exact laws_szTerm.mono _ _ _ _ _ | exact laws_toSymS.mono _ _ | exact laws_toTerm.mono _ _ _ _ | exact spec_Finger.mono _ _ _ _ _ | exact LeO.refl _ | exact LeO.none _ | refine LeO.ite ?_ ?_ | refine LeO.bind ?_ (fun _ => ?_)) | exact ih0 _ _ _ _ _ | exact ih1 _ _ _ _ | exact ih2 _ _ _ _ _ _ _ _ _ _ | exact ih3 _ _ _ _ _ _ _ _ _ _ | exact ih4 _ _ _ _ _ _ _ _ _ _ | exact ih5 _ _ _ _ _ _ _ | exact ih6 _ _ _ _ _ _ | exact ih7 _ _ _ _ _ _ _ _ | exact ih8 _ _ _ _ _ _ _ | exact ih9 _ _ | exact impl_Finger.mono _ _ _ _ _ | exact laws_eqIntS.mono _ _ _ | exact laws_eqSymS.mono _ _ _ | exact laws_eqTerm.mono _ _ _ _ _ _ _ | exact laws_heldIntS.mono _ _ _ | exact laws_markIntS.mono _ _ _ | exact laws_markSymS.mono _ _ _ | exact laws_markTerm.mono _ _ _ _ _ | exact laws_szSymS.mono _ _ _ | exact laws_szTerm.mono _ _ _ _ _ | exact laws_toSymS.mono _ _ | exact laws_toTerm.mono _ _ _ _ | exact spec_Finger.mono _ _ _ _ _ | exact LeO.none _ | refine LeO.ite ?_ ?_ | refine LeO.bind ?_ (fun _ => ?_)
    · intro y0 y1 y2 y3 y4 y5 y6
      unfold laws_FnExactFinger.j5
      repeat' first | (with_reducible first | exact ih0 _ _ _ _ _ | exact ih1 _ _ _ _ | exact ih2 _ _ _ _ _ _ _ _ _ _ | exact ih3 _ _ _ _ _ _ _ _ _ _ | exact ih4 _ _ _ _ _ _ _ _ _ _ | exact ih5 _ _ _ _ _ _ _ | exact ih6 _ _ _ _ _ _ | exact ih7 _ _ _ _ _ _ _ _ | exact ih8 _ _ _ _ _ _ _ | exact ih9 _ _ | exact impl_Finger.mono _ _ _ _ _ | exact laws_eqIntS.mono _ _ _ | exact laws_eqSymS.mono _ _ _ | exact laws_eqTerm.mono _ _ _ _ _ _ _ | exact laws_heldIntS.mono _ _ _ | exact laws_markIntS.mono _ _ _ | exact laws_markSymS.mono _ _ _ | exact laws_markTerm.mono _ _ _ _ _ | exact laws_szSymS.mono _ _ _ | exact laws_szTerm.mono _ _ _ _ _ | exact laws_toSymS.mono _ _ | exact laws_toTerm.mono _ _ _ _ | exact spec_Finger.mono _ _ _ _ _ | exact LeO.refl _ | exact LeO.none _ | refine LeO.ite ?_ ?_ | refine LeO.bind ?_ (fun _ => ?_)) | exact ih0 _ _ _ _ _ | exact ih1 _ _ _ _ | exact ih2 _ _ _ _ _ _ _ _ _ _ | exact ih3 _ _ _ _ _ _ _ _ _ _ | exact ih4 _ _ _ _ _ _ _ _ _ _ | exact ih5 _ _ _ _ _ _ _ | exact ih6 _ _ _ _ _ _ | exact ih7 _ _ _ _ _ _ _ _ | exact ih8 _ _ _ _ _ _ _ | exact ih9 _ _ | exact impl_Finger.mono _ _ _ _ _ | exact laws_eqIntS.mono _ _ _ | exact laws_eqSymS.mono _ _ _ | exact laws_eqTerm.mono _ _ _ _ _ _ _ | exact laws_heldIntS.mono _ _ _ | exact laws_markIntS.mono _ _ _ | exact laws_markSymS.mono _ _ _ | exact laws_markTerm.mono _ _ _ _ _ | exact laws_szSymS.mono _ _ _ | exact laws_szTerm.mono _ _ _ _ _ | exact laws_toSymS.mono _ _ | exact laws_toTerm.mono _ _ _ _ | exact spec_Finger.mono _ _ _ _ _ | exact LeO.none _ | refine LeO.ite ?_ ?_ | refine LeO.bind ?_ (fun _ => ?_)
    · intro y0 y1 y2 y3 y4 y5
      unfold laws_FnExactFinger.j6
      repeat' first | (with_reducible first | exact ih0 _ _ _ _ _ | exact ih1 _ _ _ _ | exact ih2 _ _ _ _ _ _ _ _ _ _ | exact ih3 _ _ _ _ _ _ _ _ _ _ | exact ih4 _ _ _ _ _ _ _ _ _ _ | exact ih5 _ _ _ _ _ _ _ | exact ih6 _ _ _ _ _ _ | exact ih7 _ _ _ _ _ _ _ _ | exact ih8 _ _ _ _ _ _ _ | exact ih9 _ _ | exact impl_Finger.mono _ _ _ _ _ | exact laws_eqIntS.mono _ _ _ | exact laws_eqSymS.mono _ _ _ | exact laws_eqTerm.mono _ _ _ _ _ _ _ | exact laws_heldIntS.mono _ _ _ | exact laws_markIntS.mono _ _ _ | exact laws_markSymS.mono _ _ _ | exact laws_markTerm.mono _ _ _ _ _ | exact laws_szSymS.mono _ _ _ | exact laws_szTerm.mono _ _ _ _ _ | exact laws_toSymS.mono _ _ | exact laws_toTerm.mono _ _ _ _ | exact spec_Finger.mono _ _ _ _ _ | exact LeO.refl _ | exact LeO.none _ | refine LeO.ite ?_ ?_ | refine LeO.bind ?_ (fun _ => ?_)) | exact ih0 _ _ _ _ _ | exact ih1 _ _ _ _ | exact ih2 _ _ _ _ _ _ _ _ _ _ | exact ih3 _ _ _ _ _ _ _ _ _ _ | exact ih4 _ _ _ _ _ _ _ _ _ _ | exact ih5 _ _ _ _ _ _ _ | exact ih6 _ _ _ _ _ _ | exact ih7 _ _ _ _ _ _ _ _ | exact ih8 _ _ _ _ _ _ _ | exact ih9 _ _ | exact impl_Finger.mono _ _ _ _ _ | exact laws_eqIntS.mono _ _ _ | exact laws_eqSymS.mono _ _ _ | exact laws_eqTerm.mono _ _ _ _ _ _ _ | exact laws_heldIntS.mono _ _ _ | exact laws_markIntS.mono _ _ _ | exact laws_markSymS.mono _ _ _ | exact laws_markTerm.mono _ _ _ _ _ | exact laws_szSymS.mono _ _ _ | exact laws_szTerm.mono _ _ _ _ _ | exact laws_toSymS.mono _ _ | exact laws_toTerm.mono _ _ _ _ | exact spec_Finger.mono _ _ _ _ _ | exact LeO.none _ | refine LeO.ite ?_ ?_ | refine LeO.bind ?_ (fun _ => ?_)
    · intro y0 y1 y2 y3 y4 y5 y6 y7
      unfold laws_FnExactFinger.j7
      repeat' first | (with_reducible first | exact ih0 _ _ _ _ _ | exact ih1 _ _ _ _ | exact ih2 _ _ _ _ _ _ _ _ _ _ | exact ih3 _ _ _ _ _ _ _ _ _ _ | exact ih4 _ _ _ _ _ _ _ _ _ _ | exact ih5 _ _ _ _ _ _ _ | exact ih6 _ _ _ _ _ _ | exact ih7 _ _ _ _ _ _ _ _ | exact ih8 _ _ _ _ _ _ _ | exact ih9 _ _ | exact impl_Finger.mono _ _ _ _ _ | exact laws_eqIntS.mono _ _ _ | exact laws_eqSymS.mono _ _ _ | exact laws_eqTerm.mono _ _ _ _ _ _ _ | exact laws_heldIntS.mono _ _ _ | exact laws_markIntS.mono _ _ _ | exact laws_markSymS.mono _ _ _ | exact laws_markTerm.mono _ _ _ _ _ | exact laws_szSymS.mono _ _ _ | exact laws_szTerm.mono _ _ _ _ _ | exact laws_toSymS.mono _ _ | exact laws_toTerm.mono _ _ _ _ | exact spec_Finger.mono _ _ _ _ _ | exact LeO.refl _ | exact LeO.none _ | refine LeO.ite ?_ ?_ | refine LeO.bind ?_ (fun _ => ?_)) | exact ih0 _ _ _ _ _ | exact ih1 _ _ _ _ | exact ih2 _ _ _ _ _ _ _ _ _ _ | exact ih3 _ _ _ _ _ _ _ _ _ _ | exact ih4 _ _ _ _ _ _ _ _ _ _ | exact ih5 _ _ _ _ _ _ _ | exact ih6 _ _ _ _ _ _ | exact ih7 _ _ _ _ _ _ _ _ | exact ih8 _ _ _ _ _ _ _ | exact ih9 _ _ | exact impl_Finger.mono _ _ _ _ _ | exact laws_eqIntS.mono _ _ _ | exact laws_eqSymS.mono _ _ _ | exact laws_eqTerm.mono _ _ _ _ _ _ _ | exact laws_heldIntS.mono _ _ _ | exact laws_markIntS.mono _ _ _ | exact laws_markSymS.mono _ _ _ | exact laws_markTerm.mono _ _ _ _ _ | exact laws_szSymS.mono _ _ _ | exact laws_szTerm.mono _ _ _ _ _ | exact laws_toSymS.mono _ _ | exact laws_toTerm.mono _ _ _ _ | exact spec_Finger.mono _ _ _ _ _ | exact LeO.none _ | refine LeO.ite ?_ ?_ | refine LeO.bind ?_ (fun _ => ?_)
    · intro y0 y1 y2 y3 y4 y5 y6
      unfold laws_FnExactFinger.j8
      repeat' first | (with_reducible first | exact ih0 _ _ _ _ _ | exact ih1 _ _ _ _ | exact ih2 _ _ _ _ _ _ _ _ _ _ | exact ih3 _ _ _ _ _ _ _ _ _ _ | exact ih4 _ _ _ _ _ _ _ _ _ _ | exact ih5 _ _ _ _ _ _ _ | exact ih6 _ _ _ _ _ _ | exact ih7 _ _ _ _ _ _ _ _ | exact ih8 _ _ _ _ _ _ _ | exact ih9 _ _ | exact impl_Finger.mono _ _ _ _ _ | exact laws_eqIntS.mono _ _ _ | exact laws_eqSymS.mono _ _ _ | exact laws_eqTerm.mono _ _ _ _ _ _ _ | exact laws_heldIntS.mono _ _ _ | exact laws_markIntS.mono _ _ _ | exact laws_markSymS.mono _ _ _ | exact laws_markTerm.mono _ _ _ _ _ | exact laws_szSymS.mono _ _ _ | exact laws_szTerm.mono _ _ _ _ _ | exact laws_toSymS.mono _ _ | exact laws_toTerm.mono _ _ _ _ | exact spec_Finger.mono _ _ _ _ _ | exact LeO.refl _ | exact LeO.none _ | refine LeO.ite ?_ ?_ | refine LeO.bind ?_ (fun _ => ?_)) | exact ih0 _ _ _ _ _ | exact ih1 _ _ _ _ | exact ih2 _ _ _ _ _ _ _ _ _ _ | exact ih3 _ _ _ _ _ _ _ _ _ _ | exact ih4 _ _ _ _ _ _ _ _ _ _ | exact ih5 _ _ _ _ _ _ _ | exact ih6 _ _ _ _ _ _ | exact ih7 _ _ _ _ _ _ _ _ | exact ih8 _ _ _ _ _ _ _ | exact ih9 _ _ | exact impl_Finger.mono _ _ _ _ _ | exact laws_eqIntS.mono _ _ _ | exact laws_eqSymS.mono _ _ _ | exact laws_eqTerm.mono _ _ _ _ _ _ _ | exact laws_heldIntS.mono _ _ _ | exact laws_markIntS.mono _ _ _ | exact laws_markSymS.mono _ _ _ | exact laws_markTerm.mono _ _ _ _ _ | exact laws_szSymS.mono _ _ _ | exact laws_szTerm.mono _ _ _ _ _ | exact laws_toSymS.mono _ _ | exact laws_toTerm.mono _ _ _ _ | exact spec_Finger.mono _ _ _ _ _ | exact LeO.none _ | refine LeO.ite ?_ ?_ | refine LeO.bind ?_ (fun _ => ?_)
    · intro y0 y1
      unfold laws_FnExactFinger.j9
      repeat' first | (with_reducible first | exact ih0 _ _ _ _ _ | exact ih1 _ _ _ _ | exact ih2 _ _ _ _ _ _ _ _ _ _ | exact ih3 _ _ _ _ _ _ _ _ _ _ | exact ih4 _ _ _ _ _ _ _ _ _ _ | exact ih5 _ _ _ _ _ _ _ | exact ih6 _ _ _ _ _ _ | exact ih7 _ _ _ _ _ _ _ _ | exact ih8 _ _ _ _ _ _ _ | exact ih9 _ _ | exact impl_Finger.mono _ _ _ _ _ | exact laws_eqIntS.mono _ _ _ | exact laws_eqSymS.mono _ _ _ | exact laws_eqTerm.mono _ _ _ _ _ _ _ | exact laws_heldIntS.mono _ _ _ | exact laws_markIntS.mono _ _ _ | exact laws_markSymS.mono _ _ _ | exact laws_markTerm.mono _ _ _ _ _ | exact laws_szSymS.mono _ _ _ | exact laws_szTerm.mono _ _ _ _ _ | exact laws_toSymS.mono _ _ | exact laws_toTerm.mono _ _ _ _ | exact spec_Finger.mono _ _ _ _ _ | exact LeO.refl _ | exact LeO.none _ | refine LeO.ite ?_ ?_ | refine LeO.bind ?_ (fun _ => ?_)) | exact ih0 _ _ _ _ _ | exact ih1 _ _ _ _ | exact ih2 _ _ _ _ _ _ _ _ _ _ | exact ih3 _ _ _ _ _ _ _ _ _ _ | exact ih4 _ _ _ _ _ _ _ _ _ _ | exact ih5 _ _ _ _ _ _ _ | exact ih6 _ _ _ _ _ _ | exact ih7 _ _ _ _ _ _ _ _ | exact ih8 _ _ _ _ _ _ _ | exact ih9 _ _ | exact impl_Finger.mono _ _ _ _ _ | exact laws_eqIntS.mono _ _ _ | exact laws_eqSymS.mono _ _ _ | exact laws_eqTerm.mono _ _ _ _ _ _ _ | exact laws_heldIntS.mono _ _ _ | exact laws_markIntS.mono _ _ _ | exact laws_markSymS.mono _ _ _ | exact laws_markTerm.mono _ _ _ _ _ | exact laws_szSymS.mono _ _ _ | exact laws_szTerm.mono _ _ _ _ _ | exact laws_toSymS.mono _ _ | exact laws_toTerm.mono _ _ _ _ | exact spec_Finger.mono _ _ _ _ _ | exact LeO.none _ | refine LeO.ite ?_ ?_ | refine LeO.bind ?_ (fun _ => ?_)
theorem laws_FnExactFinger.mono : ∀ a0 a1 a2 a3 k, LeO (laws_FnExactFinger.f k a0 a1 a2 a3) (laws_FnExactFinger.f (k + 1) a0 a1 a2 a3) := by
  intro a0 a1 a2 a3 k; obtain ⟨ih0, ih1, ih2, ih3, ih4, ih5, ih6, ih7, ih8, ih9⟩ := laws_FnExactFinger.mono_l k
  unfold laws_FnExactFinger.f
  repeat' first
      | (with_reducible exact ih0 _ _ _ _ _)
      | (with_reducible exact ih1 _ _ _ _)
      | (with_reducible exact ih2 _ _ _ _ _ _ _ _ _ _)
      | (with_reducible exact ih3 _ _ _ _ _ _ _ _ _ _)
      | (with_reducible exact ih4 _ _ _ _ _ _ _ _ _ _)
      | (with_reducible exact ih5 _ _ _ _ _ _ _)
      | (with_reducible exact ih6 _ _ _ _ _ _)
      | (with_reducible exact ih7 _ _ _ _ _ _ _ _)
      | (with_reducible exact ih8 _ _ _ _ _ _ _)
      | (with_reducible exact ih9 _ _)
      | (with_reducible exact impl_Finger.mono _ _ _ _ _)
      | (with_reducible exact laws_eqIntS.mono _ _ _)
      | (with_reducible exact laws_eqSymS.mono _ _ _)
      | (with_reducible exact laws_eqTerm.mono _ _ _ _ _ _ _)
      | (with_reducible exact laws_heldIntS.mono _ _ _)
      | (with_reducible exact laws_markIntS.mono _ _ _)
      | (with_reducible exact laws_markSymS.mono _ _ _)
      | (with_reducible exact laws_markTerm.mono _ _ _ _ _)
      | (with_reducible exact laws_szSymS.mono _ _ _)
      | (with_reducible exact laws_szTerm.mono _ _ _ _ _)
      | (with_reducible exact laws_toSymS.mono _ _)
      | (with_reducible exact laws_toTerm.mono _ _ _ _)
      | (with_reducible exact spec_Finger.mono _ _ _ _ _)
      | (with_reducible exact LeO.refl _)
      | (with_reducible exact LeO.none _)
      | (with_reducible refine LeO.ite ?_ ?_)
      | (with_reducible refine LeO.bind ?_ (fun _ => ?_))
      | exact ih0 _ _ _ _ _
      | exact ih1 _ _ _ _
      | exact ih2 _ _ _ _ _ _ _ _ _ _
      | exact ih3 _ _ _ _ _ _ _ _ _ _
      | exact ih4 _ _ _ _ _ _ _ _ _ _
      | exact ih5 _ _ _ _ _ _ _
      | exact ih6 _ _ _ _ _ _
      | exact ih7 _ _ _ _ _ _ _ _
      | exact ih8 _ _ _ _ _ _ _
      | exact ih9 _ _
      | exact impl_Finger.mono _ _ _ _ _
      | exact laws_eqIntS.mono _ _ _
      | exact laws_eqSymS.mono _ _ _
      | exact laws_eqTerm.mono _ _ _ _ _ _ _
      | exact laws_heldIntS.mono _ _ _
      | exact laws_markIntS.mono _ _ _
      | exact laws_markSymS.mono _ _ _
      | exact laws_markTerm.mono _ _ _ _ _
      | exact laws_szSymS.mono _ _ _
      | exact laws_szTerm.mono _ _ _ _ _
      | exact laws_toSymS.mono _ _
      | exact laws_toTerm.mono _ _ _ _
      | exact spec_Finger.mono _ _ _ _ _
      | exact LeO.none _
      | refine LeO.ite ?_ ?_
      | refine LeO.bind ?_ (fun _ => ?_)
set_option maxHeartbeats 8000000 in
set_option maxRecDepth 100000 in
theorem laws_FnExactFinger.calls (k : Nat) (A0 : Option Addr) (c0 : Nat) (l0 : List (L_Sym)) (a1_0 : Int) (a1_1 : Int) (A1_2 : Option Addr) (c1_2 : Nat) (l1_2 : List (L_Term)) (r : Bool) (w : World) (hr0 : Kd.C k115 w A0 l0.length l0) (hc0 : l0.length ≤ c0) (hr1_2 : Kd.C k81 w A1_2 l1_2.length l1_2) (hc1_2 : l1_2.length ≤ c1_2) (h : laws_FnExactFinger.f k l0 a1_0 a1_1 l1_2 = some r) :
    Calls Try.prog 13 #[.slice A0 l0.length c0, .agg #[.int .i64 a1_0, .int .i64 a1_1, .slice A1_2 l1_2.length c1_2]] w fun e w' => e = .returned (.bool r) ∧ Below w.heap.size w w' := by
  have hu81 := Try.underlying81; have hu90 := Try.underlying90; have HR0 := ak hr0; have HC0 := ak hc0; clear hr0 hc0; have HR1_2 := ak hr1_2; have HC1_2 := ak hc1_2; clear hr1_2 hc1_2; have HB := ak (Below.refl w.heap.size w); have H : ((laws_szSymS.f k l0 1048576).bind fun t199 => (if t199 < 0 then (some true) else (laws_FnExactFinger.j0 k l0 t199 a1_0 a1_1 l1_2))) = some r := h; clear h; replace H := Option.bind_eq_some_iff.mp H; obtain ⟨t199, A30, H⟩ := H; have A3 := ak A30; clear A30; have HC4 := ak H; clear H
  go_enter Try.func13, Try.ntmps13
  go_upto_if 18 with (first | ((with_reducible refine gate_dst (N := 3) rfl ?_); refine bxe_ (N := 3) (cs := #[.int .i64 a1_0, .int .i64 a1_1, .slice A1_2 l1_2.length c1_2]) (t := 81) ?_; intro gb198 hg w5 hbox hb; have BK198 := ak (hbox); have GW198 := ak (lg_ hg (bl_ HB.out)); have GE198 := ak (lg_ hg (bl_ HB.out)); replace HB := ak (below_step (bl_ HB.out) hb); clear hb hbox hg) | ((with_reducible refine gate_callee (f := 55) rfl ?_); refine goesM_ (some 16) rfl rfl Try.func55 (by kernel_rfl) rfl #[.slice A0 l0.length c0, .int .i64 1048576] rfl ?_; (with_reducible refine (laws_szSymS.calls k _ _ l0 1048576 t199 _ ?side1 ?side2 A3.out).mono ?_); (case side1 => exact cb_ HR0.out HB.out); (case side2 => exact HC0.out); rintro e w6 ⟨rfl, hb⟩; refine ⟨_, rfl, ?_⟩; replace BK198 := ak (blk_below (bk_ BK198.out) hb); replace HB := ak (below_step (bs1_ HB.out GE198.out) hb); (try clear hb); (try clear hb2); (try clear hk); (try clear hi)))
  (try simp only [Act.put, List.setIfInBounds_toArray, List.set_cons_zero, List.set_cons_succ])
  go_cut [] (fun wc => ∃ (kq : Nat), Aside0 (laws_FnExactFinger.j0 kq l0 t199 a1_0 a1_1 l1_2 = some r) ∧ Aside0 (kq ≤ k) ∧ Aside0 (wc.heap[gb198]? = some (.cells #[.int .i64 a1_0, .int .i64 a1_1, (.slice A1_2 l1_2.length c1_2)] 81 (0, 0))) ∧ Aside0 (Below w.heap.size w wc))
  case first =>
    have H := HC4.out; clear HC4
    by_cases c7 : t199 < 0
    · rw [if_pos c7] at H; have c7b0 := decide_eq_true c7; clear c7; (first | rw [c7b0] | (simp only [i64_w, i32_w]; rw [c7b0]) | (rw [show ∀ x_ y_ : Bool, (!(x_ == y_)) = (x_ != y_) from fun _ _ => rfl, c7b0]) | skip); obtain rfl := Option.some.inj H
      go_wp2
      go_ret
      exact fin_ (bs1_ HB.out GE198.out)
    rw [if_neg c7] at H; have c7b0 := decide_eq_false c7; clear c7; (first | rw [c7b0] | (simp only [i64_w, i32_w]; rw [c7b0]) | (rw [show ∀ x_ y_ : Bool, (!(x_ == y_)) = (x_ != y_) from fun _ _ => rfl, c7b0]) | skip); have H' := ak H; clear H
    go_wp2
    go_meet
    case rel => exact ⟨_, H', ⟨by first | omega | exact Nat.le_refl _⟩, ⟨bk_ BK198.out⟩, ⟨bs1_ HB.out GE198.out⟩⟩
  clear HC4; (try clear c1); (try clear p2); (try clear c5); (try clear c7); (try clear c7b0); obtain ⟨kq, HA, HJ3, BK198, HB⟩ := hcut
  cases kq with
  | zero => exact absurd HA.out (by simp [laws_FnExactFinger.j0])
  | succ kj3 => ?_
  have H := HA.out; clear HA
  simp only [laws_FnExactFinger.j0] at H
  replace H := Option.bind_eq_some_iff.mp H; obtain ⟨t200, A80, H⟩ := H; have A8 := ak A80; clear A80; have HC9 := ak H; clear H; have hcz10_0 := bc_ BK198.out 0; have hcz10_1 := bc_ BK198.out 1; have hcz10_2 := bc_ BK198.out 2; have hfz10_0 := blk_frozen BK198.out 0; have hfz10_1 := blk_frozen BK198.out 1; have hfz10_2 := blk_frozen BK198.out 2
  go_upto_if 23 with (first | ((with_reducible refine gate_callee (f := 56) rfl ?_); refine goesM_ (some 21) rfl rfl Try.func56 (by kernel_rfl) rfl #[.agg #[.int .i64 a1_0, .int .i64 a1_1, .slice A1_2 l1_2.length c1_2], .int .i64 t199] rfl ?_; (with_reducible refine (laws_szTerm.calls kj3 a1_0 a1_1 _ _ l1_2 t199 t200 _ ?side1 ?side2 A8.out).mono ?_); (case side1 => exact cb_ HR1_2.out HB.out); (case side2 => exact HC1_2.out); rintro e w11 ⟨rfl, hb⟩; refine ⟨_, rfl, ?_⟩; replace BK198 := ak (blk_below (bk_ BK198.out) hb); replace HB := ak (below_step (bs1_ HB.out GE198.out) hb); (try clear hb); (try clear hb2); (try clear hk); (try clear hi)))
  (try simp only [Act.put, List.setIfInBounds_toArray, List.set_cons_zero, List.set_cons_succ])
  go_cut [] (fun wc => ∃ (kq : Nat), Aside0 (laws_FnExactFinger.j1 kq l0 a1_0 a1_1 l1_2 = some r) ∧ Aside0 (kq ≤ kj3) ∧ Aside0 (wc.heap[gb198]? = some (.cells #[.int .i64 a1_0, .int .i64 a1_1, (.slice A1_2 l1_2.length c1_2)] 81 (0, 0))) ∧ Aside0 (Below w.heap.size w wc))
  case first =>
    have H := HC9.out; clear HC9
    by_cases c12 : t200 < 0
    · rw [if_pos c12] at H; have c12b0 := decide_eq_true c12; clear c12; (first | rw [c12b0] | (simp only [i64_w, i32_w]; rw [c12b0]) | (rw [show ∀ x_ y_ : Bool, (!(x_ == y_)) = (x_ != y_) from fun _ _ => rfl, c12b0]) | skip); obtain rfl := Option.some.inj H
      go_wp2
      go_ret
      exact fin_ (bs1_ HB.out GE198.out)
    rw [if_neg c12] at H; have c12b0 := decide_eq_false c12; clear c12; (first | rw [c12b0] | (simp only [i64_w, i32_w]; rw [c12b0]) | (rw [show ∀ x_ y_ : Bool, (!(x_ == y_)) = (x_ != y_) from fun _ _ => rfl, c12b0]) | skip); have H' := ak H; clear H
    go_wp2
    go_meet
    case rel => exact ⟨_, H', ⟨by have := HJ3.out; first | omega | exact Nat.le_refl _⟩, ⟨bk_ BK198.out⟩, ⟨bs1_ HB.out GE198.out⟩⟩
  clear HC9; (try clear p2); (try clear c12); (try clear c12b0); (try clear hcz10_0); (try clear hcz10_1); (try clear hcz10_2); (try clear hfz10_0); (try clear hfz10_1); (try clear hfz10_2); (try clear p2); obtain ⟨kq, HA, HJ8, BK198, HB⟩ := hcut
  cases kq with
  | zero => exact absurd HA.out (by simp [laws_FnExactFinger.j1])
  | succ kj8 => ?_
  have H := HA.out; clear HA
  simp only [laws_FnExactFinger.j1] at H
  replace H := Option.bind_eq_some_iff.mp H; obtain ⟨t201, A130, H⟩ := H; have A13 := ak A130; clear A130; replace H := Option.bind_eq_some_iff.mp H; obtain ⟨⟨t204, t205, t206⟩, A140, H⟩ := H; dsimp only at H; have A14 := ak A140; clear A140; replace H := Option.bind_eq_some_iff.mp H; obtain ⟨t209, A150, H⟩ := H; have A15 := ak A150; clear A150; replace H := Option.bind_eq_some_iff.mp H; obtain ⟨t212, A160, H⟩ := H; have A16 := ak A160; clear A160; replace H := Option.bind_eq_some_iff.mp H; obtain ⟨⟨t215, t216, t217⟩, A170, H⟩ := H; dsimp only at H; have A17 := ak A170; clear A170; replace H := Option.bind_eq_some_iff.mp H; obtain ⟨t221, A180, H⟩ := H; have A18 := ak A180; clear A180; replace H := Option.bind_eq_some_iff.mp H; obtain ⟨t224, A190, H⟩ := H; have A19 := ak A190; clear A190; have HC20 := ak H; clear H
  try go_wp2
  replace BK198 := ak (blk_drew BK198.out); replace HB := ak (below_drew1 HB.out); refine start_ (n := 6) (S := fun w' => w'.cell? ⟨gb198, 0, none⟩ = some (.int .i64 a1_0) ∧ w'.cell? ⟨gb198, 1, none⟩ = some (.int .i64 a1_1) ∧ w'.cell? ⟨gb198, 2, none⟩ = some (.slice A1_2 l1_2.length c1_2)) (ds := []) #[false, false, false, false, false, false] (by kernel_rfl) rfl rfl ⟨(blk_cell BK198.out 0).trans rfl, (blk_cell BK198.out 1).trans rfl, (blk_cell BK198.out 2).trans rfl⟩ (fun hHeld => ?_)
  generalize wc.drew = w21 at BK198 HB hHeld ⊢
  refine pure_ (i := 0) (N := some 24) (v := ?_) (a' := ?_) #[true, false, false, false, false, false] rfl rfl (by kernel_rfl) (fun _ _ _ h => h) (Or.inl ⟨by rfl, ?_⟩) ?_ ?_
  rotate_left
  · intro w'
    go_simp
    with_reducible rfl
  rotate_left
  · simp only [Act.put, List.setIfInBounds_toArray, List.set_cons_zero, List.set_cons_succ, i64_w, i32_w]
    rfl
  refine take_ (i := 2) (N := some 26) (v := ?_) (a' := ?_) #[true, false, true, false, false, false] rfl rfl (by kernel_rfl) (fun _ _ _ h => h) (Or.inl ⟨by rfl, ?_⟩) hHeld ?_ ?_
  rotate_left
  · rintro w' ⟨s0, s1, s2⟩
    go_simp
    with_reducible rfl
  rotate_left
  · simp only [Act.put, List.setIfInBounds_toArray, List.set_cons_zero, List.set_cons_succ, i64_w, i32_w]
    rfl
  refine one_ (i := 1) (N := some 25) #[true, true, true, false, false, false] rfl rfl (by kernel_rfl) (by decide) (fun K hK => ?_); refine goesB_ Try.func58 (by kernel_rfl) rfl #[.slice A0 l0.length c0] (by rfl) rfl rfl ?_
  with_reducible refine (laws_toSymS.calls kj8 _ _ l0 t201 _ ?side1 ?side2 A13.out).mono ?_
  (case side1 => exact cb_ HR0.out HB.out); (case side2 => exact HC0.out); rintro e w22 ⟨v202, rfl, ho0, hb⟩; refine ⟨_, rfl, ?_⟩; have HO203 := ak (Kd.R_lower ho0 (below_size (bs1_ HB.out GE198.out))); replace BK198 := ak (blk_below (bk_ BK198.out) hb); replace HB := ak (below_step (bs1_ HB.out GE198.out) hb); (try clear hb); (try clear hb2); (try clear hk); (try clear hi); (try clear ho0); refine hK.out _ _ ⟨(blk_cell BK198.out 0).trans rfl, (blk_cell BK198.out 1).trans rfl, (blk_cell BK198.out 2).trans rfl⟩ (fun hHeld => ?_); clear hK K; refine norm_ (a' := ?_) ?_ ?_
  rotate_left
  · show Act.put _ (some 25) _ = _
    simp only [Act.put, List.setIfInBounds_toArray, List.set_cons_zero, List.set_cons_succ, i64_w, i32_w]
    rfl
  refine one_ (i := 3) (N := some 27) #[true, true, true, true, false, false] rfl rfl (by kernel_rfl) (by decide) (fun K hK => ?_); refine goesB_ Try.func59 (by kernel_rfl) rfl #[.agg #[.int .i64 a1_0, .int .i64 a1_1, .slice A1_2 l1_2.length c1_2]] (by rfl) rfl rfl ?_
  with_reducible refine (laws_toTerm.calls kj8 a1_0 a1_1 _ _ l1_2 t204 t205 t206 _ ?side1 ?side2 A14.out).mono ?_
  (case side1 => exact cb_ HR1_2.out HB.out); (case side2 => exact HC1_2.out); rintro e w23 ⟨v207, rfl, ho0, hb⟩; refine ⟨_, rfl, ?_⟩; replace HO203 := ak (Kd.R_below (ra_ HO203.out) hb); have HO208 := ak (Kd.R_lower ho0 (below_size (bs1_ HB.out GE198.out))); replace BK198 := ak (blk_below (bk_ BK198.out) hb); replace HB := ak (below_step (bs1_ HB.out GE198.out) hb); (try clear hb); (try clear hb2); (try clear hk); (try clear hi); (try clear ho0); obtain ⟨Ao24, co24, eo24⟩ := Kd.R_slice HO203.out; (first | subst eo24 | (injection eo24 with f1_ f2_ f3_; have f4_ := f1_.symm; have f5_ := f3_.symm; clear f1_ f2_ f3_; subst f4_; subst f5_)); obtain ⟨Ao25, co25, eo25⟩ := Kd.R_slice HO208.out; (first | subst eo25 | (injection eo25 with f1_ f2_ f3_; have f4_ := f1_.symm; have f5_ := f3_.symm; clear f1_ f2_ f3_; subst f4_; subst f5_)); refine hK.out _ _ ⟨(blk_cell BK198.out 0).trans rfl, (blk_cell BK198.out 1).trans rfl, (blk_cell BK198.out 2).trans rfl⟩ (fun hHeld => ?_); clear hK K; refine norm_ (a' := ?_) ?_ ?_
  rotate_left
  · show Act.put _ (some 27) _ = _
    simp only [Act.put, List.setIfInBounds_toArray, List.set_cons_zero, List.set_cons_succ, i64_w, i32_w]
    rfl
  refine one_ (i := 4) (N := some 28) #[true, true, true, true, true, false] rfl rfl (by kernel_rfl) (by decide) (fun K hK => ?_); refine goesB_ Try.func57 (by kernel_rfl) rfl #[.slice Ao24 t201.length co24, .agg #[.int .i64 t204, .int .i64 t205, .slice Ao25 t206.length co25]] (by rfl) rfl rfl ?_
  with_reducible refine (spec_Finger.calls kj8 _ _ t201 t204 t205 _ _ t206 t209 _ ?side1 ?side2 ?side3 ?side4 A15.out).mono ?_
  (case side1 => exact ca_ (Kd.R_reads' HO203.out).2.2); (case side2 => exact (Kd.R_reads' HO203.out).2.1); (case side3 => exact ca_ (Kd.R_reads' HO208.out).2.2); (case side4 => exact (Kd.R_reads' HO208.out).2.1); rintro e w26 ⟨v210, rfl, ho0, hb⟩; refine ⟨_, rfl, ?_⟩; replace HO203 := ak (Kd.R_below (ra_ HO203.out) hb); replace HO208 := ak (Kd.R_below (ra_ HO208.out) hb); have HO211 := ak (Kd.R_lower ho0 (below_size (bs1_ HB.out GE198.out))); replace BK198 := ak (blk_below (bk_ BK198.out) hb); replace HB := ak (below_step (bs1_ HB.out GE198.out) hb); (try clear hb); (try clear hb2); (try clear hk); (try clear hi); (try clear ho0); refine hK.out _ _ ⟨(blk_cell BK198.out 0).trans rfl, (blk_cell BK198.out 1).trans rfl, (blk_cell BK198.out 2).trans rfl⟩ (fun hHeld => ?_); clear hK K; refine norm_ (a' := ?_) ?_ ?_
  rotate_left
  · show Act.put _ (some 28) _ = _
    simp only [Act.put, List.setIfInBounds_toArray, List.set_cons_zero, List.set_cons_succ, i64_w, i32_w]
    rfl
  refine pure_ (i := 5) (N := some 6) (v := ?_) (a' := ?_) #[true, true, true, true, true, true] rfl rfl (by kernel_rfl) (fun _ _ _ h => h) (Or.inl ⟨by rfl, ?_⟩) ?_ ?_
  rotate_left
  · intro w'
    go_simp
    with_reducible rfl
  rotate_left
  · simp only [Act.put, List.setIfInBounds_toArray, List.set_cons_zero, List.set_cons_succ, i64_w, i32_w]
    rfl
  refine done_ (by kernel_rfl) ?_
  go_upto_if 39 with (first | ((with_reducible refine gate_callee (f := 58) rfl ?_); refine goesM_ (some 30) rfl rfl Try.func58 (by kernel_rfl) rfl #[.slice A0 l0.length c0] rfl ?_; (with_reducible refine (laws_toSymS.calls kj8 _ _ l0 t212 _ ?side1 ?side2 A16.out).mono ?_); (case side1 => exact cb_ HR0.out HB.out); (case side2 => exact HC0.out); rintro e w27 ⟨v213, rfl, ho0, hb⟩; refine ⟨_, rfl, ?_⟩; replace HO208 := ak (Kd.R_below (ra_ HO208.out) hb); replace HO211 := ak (Kd.R_below (ra_ HO211.out) hb); have HO214 := ak (Kd.R_lower (Kd.R_new' ho0 (Kd.R_lt (ra_ HO203.out))) (below_size (bs1_ HB.out GE198.out))); replace HO203 := ak (Kd.R_elder' (ra_ HO203.out) (Kd.R_base ho0) hb); replace BK198 := ak (blk_below (bk_ BK198.out) hb); replace HB := ak (below_step (bs1_ HB.out GE198.out) hb); (try clear hb); (try clear hb2); (try clear hk); (try clear hi); (try clear ho0); have hcz28_0 := bc_ BK198.out 0; have hcz28_1 := bc_ BK198.out 1; have hcz28_2 := bc_ BK198.out 2; have hfz28_0 := blk_frozen BK198.out 0; have hfz28_1 := blk_frozen BK198.out 1; have hfz28_2 := blk_frozen BK198.out 2) | ((with_reducible refine gate_callee (f := 59) rfl ?_); refine goesM_ (some 32) rfl rfl Try.func59 (by kernel_rfl) rfl #[.agg #[.int .i64 a1_0, .int .i64 a1_1, .slice A1_2 l1_2.length c1_2]] rfl ?_; (with_reducible refine (laws_toTerm.calls kj8 a1_0 a1_1 _ _ l1_2 t215 t216 t217 _ ?side1 ?side2 A17.out).mono ?_); (case side1 => exact cb_ HR1_2.out HB.out); (case side2 => exact HC1_2.out); rintro e w29 ⟨v218, rfl, ho0, hb⟩; refine ⟨_, rfl, ?_⟩; obtain ⟨gn30, hk⟩ := gh_ hb; replace HO203 := ak (Kd.R_below (ra_ HO203.out) hb); replace HO208 := ak (Kd.R_below (gR_lt (ra_ HO208.out) hk) hb); replace HO211 := ak (Kd.R_below (ra_ HO211.out) hb); replace HO214 := ak (Kd.R_below (ra_ HO214.out) hb); have HO219 := ak (Kd.R_lower (gR_ge ho0 hk) (below_size (bs1_ HB.out GE198.out))); replace BK198 := ak (blk_below (bk_ BK198.out) hb); replace HB := ak (below_step (bs1_ HB.out GE198.out) hb); (try clear hb); (try clear hb2); (try clear hk); (try clear hi); (try clear ho0)) | ((with_reducible refine gate_dst (N := 8) rfl ?_); refine bxe_ (N := 8) (cs := #[.int .i64 0, .int .i64 0, .slice none 0 0]) (t := 90) ?_; intro gb220 hg w31 hbox hb; replace HO203 := ak (Kd.R_below (ra_ HO203.out) hb); replace HO208 := ak (Kd.R_below (Kd.R_elderB (ra_ HO208.out) gb220 (Nat.le_of_eq hg.symm)) hb); replace HO211 := ak (Kd.R_below (ra_ HO211.out) hb); replace HO214 := ak (Kd.R_below (ra_ HO214.out) hb); replace HO219 := ak (Kd.R_below (Kd.R_elderB (ra_ HO219.out) gb220 (Nat.le_of_eq hg.symm)) hb); have BK220 := ak (hbox); have GW220 := ak (lg_ hg (bs1_ HB.out GE198.out)); have GE220 := ak (lg_ hg (bs1_ HB.out GE198.out)); replace HB := ak (below_step (bs1_ HB.out GE198.out) hb); have NB198_220 := ak (nl_ hg (bk_ BK198.out)); have NB220_198 := ak (ng_ hg (bk_ BK198.out)); replace BK198 := ak (blk_below (bk_ BK198.out) hb); clear hb hbox hg; have hnb32 := NB220_198.out; have hnc32 := NB198_220.out; have hcz33_0 := bc_ BK220.out 0; have hcz33_1 := bc_ BK220.out 1; have hcz33_2 := bc_ BK220.out 2; have hfz33_0 := blk_frozen BK220.out 0; have hfz33_1 := blk_frozen BK220.out 1; have hfz33_2 := blk_frozen BK220.out 2; obtain ⟨Ao34, co34, eo34⟩ := Kd.R_slice HO219.out; subst eo34; obtain ⟨Ao35, co35, eo35⟩ := Kd.R_slice HO214.out; subst eo35) | ((with_reducible refine gate_callee (f := 60) rfl ?_); refine goesM_ (some 35) rfl rfl Try.func60 (by kernel_rfl) rfl #[.slice Ao35 t212.length co35, .agg #[.int .i64 t215, .int .i64 t216, .slice Ao34 t217.length co34]] rfl ?_; (with_reducible refine (impl_Finger.calls kj8 _ _ t212 t215 t216 _ _ t217 t221 _ ?side1 ?side2 ?side3 ?side4 A18.out).mono ?_); (case side1 => refine (Kd.R_reads' (e := 119) (base := w.heap.size) (ok := fun k_ => (True ∧ some k_ ≠ (.slice Ao24 t201.length co24 : Value).ownBlock)) (n := t212.length) (c := co35) ?_).2.2; exact (stR_ HO214.out BK220.out)); (case side2 => exact (Kd.R_reads' HO214.out).2.1); (case side3 => refine (Kd.R_reads' (e := 90) (base := w.heap.size) (ok := fun k_ => ((True ∧ gn30 ≤ k_) ∧ k_ ≠ gb220)) (n := t217.length) (c := co34) ?_).2.2; exact (by (with_reducible repeat (first | apply Kd.R_alloc | apply Kd.R_drewN | apply Kd.R_drew)); exact (Kd.R_mono (Kd.R_far (p := ⟨gb220, 2, none⟩) (Kd.R_far (p := ⟨gb220, 1, none⟩) (Kd.R_far (p := ⟨gb220, 0, none⟩) (Kd.R_mono HO219.out (fun k_ hk => (⟨hk, hk.2⟩ : _ ∧ k_ ≠ gb220))) (fun _ hk => hk.2) (.int .i64 t215)) (fun _ hk => hk.2) (.int .i64 t216)) (fun _ hk => hk.2) (.slice Ao34 t217.length co34)) (fun _ h_ => h_.1)))); (case side4 => exact (Kd.R_reads' HO219.out).2.1); rintro e w36 ⟨v222, rfl, ho0, hb⟩; refine ⟨_, rfl, ?_⟩; replace HO203 := ak (Kd.R_below (stR_ HO203.out BK220.out) hb); replace HO208 := ak (Kd.R_below (by (with_reducible repeat (first | apply Kd.R_alloc | apply Kd.R_drewN | apply Kd.R_drew)); exact (Kd.R_mono (Kd.R_far (p := ⟨gb220, 2, none⟩) (Kd.R_far (p := ⟨gb220, 1, none⟩) (Kd.R_far (p := ⟨gb220, 0, none⟩) (Kd.R_mono HO208.out (fun k_ hk => (⟨hk, hk.2⟩ : _ ∧ k_ ≠ gb220))) (fun _ hk => hk.2) (.int .i64 t215)) (fun _ hk => hk.2) (.int .i64 t216)) (fun _ hk => hk.2) (.slice Ao34 t217.length co34)) (fun _ h_ => h_.1))) hb); replace HO214 := ak (Kd.R_below (stR_ HO214.out BK220.out) hb); replace HO219 := ak (Kd.R_below (by (with_reducible repeat (first | apply Kd.R_alloc | apply Kd.R_drewN | apply Kd.R_drew)); exact (Kd.R_mono (Kd.R_far (p := ⟨gb220, 2, none⟩) (Kd.R_far (p := ⟨gb220, 1, none⟩) (Kd.R_far (p := ⟨gb220, 0, none⟩) (Kd.R_mono HO219.out (fun k_ hk => (⟨hk, hk.2⟩ : _ ∧ k_ ≠ gb220))) (fun _ hk => hk.2) (.int .i64 t215)) (fun _ hk => hk.2) (.int .i64 t216)) (fun _ hk => hk.2) (.slice Ao34 t217.length co34)) (fun _ h_ => h_.1))) hb); have HO223 := ak (Kd.R_lower (Kd.R_new' ho0 (Kd.R_lt (stR_ HO211.out BK220.out))) (below_size (bs2_ HB.out GE198.out GE220.out))); replace HO211 := ak (Kd.R_elder' (stR_ HO211.out BK220.out) (Kd.R_base ho0) hb); replace BK198 := ak (blk_below (bf_ BK198.out NB198_220.out) hb); replace BK220 := ak (blk_below (g := gb220) (o := .cells #[.int .i64 t215, .int .i64 t216, .slice Ao34 t217.length co34] 90 (0, 0)) (by (with_reducible repeat (first | refine blk_drewN ?_ _ | refine blk_drew ?_ | refine blk_alloc ?_ _)); refine blk_put (cs := #[.int .i64 t215, .int .i64 t216, .slice none 0 0]) ?_ 2 _ rfl; (with_reducible repeat (first | refine blk_drewN ?_ _ | refine blk_drew ?_ | refine blk_alloc ?_ _)); refine blk_put (cs := #[.int .i64 t215, .int .i64 0, .slice none 0 0]) ?_ 1 _ rfl; (with_reducible repeat (first | refine blk_drewN ?_ _ | refine blk_drew ?_ | refine blk_alloc ?_ _)); refine blk_put (cs := #[.int .i64 0, .int .i64 0, .slice none 0 0]) ?_ 0 _ rfl; (with_reducible repeat (first | refine blk_drewN ?_ _ | refine blk_drew ?_ | refine blk_alloc ?_ _)); exact BK220.out) hb); replace HB := ak (below_step (bs2_ HB.out GE198.out GE220.out) hb); (try clear hb); (try clear hb2); (try clear hk); (try clear hi); (try clear ho0); obtain ⟨Ao37, co37, eo37⟩ := Kd.R_slice HO223.out; subst eo37; obtain ⟨Ao38, co38, eo38⟩ := Kd.R_slice HO211.out; subst eo38) | ((with_reducible refine gate_callee (f := 61) rfl ?_); refine goesM_ (some 38) rfl rfl Try.func61 (by kernel_rfl) rfl #[.slice Ao37 t221.length co37, .slice Ao38 t209.length co38] rfl ?_; (with_reducible refine (laws_eqIntS.calls kj8 _ _ t221 _ _ t209 t224 _ ?side1 ?side2 ?side3 ?side4 A19.out).mono ?_); (case side1 => exact ca_ (Kd.R_reads' HO223.out).2.2); (case side2 => exact (Kd.R_reads' HO223.out).2.1); (case side3 => exact ca_ (Kd.R_reads' HO211.out).2.2); (case side4 => exact (Kd.R_reads' HO211.out).2.1); rintro e w' ⟨rfl, ⟨nd, rfl⟩⟩; refine ⟨_, rfl, ?_⟩))
  (try simp only [Act.put, List.setIfInBounds_toArray, List.set_cons_zero, List.set_cons_succ])
  go_cut [] (fun wc => ∃ (kq : Nat), Aside0 (laws_FnExactFinger.j2 kq l0 t209 t212 t221 a1_0 a1_1 l1_2 t215 t216 t217 = some r) ∧ Aside0 (kq ≤ kj8) ∧ Aside0 (Kd.R (Kd.int .i64) 3 wc w.heap.size (fun k_ => some k_ ≠ ((.slice Ao37 t221.length co37) : Value).ownBlock) (.slice Ao38 t209.length co38) t209) ∧ Aside0 (Kd.R k119 119 wc w.heap.size (fun _ => True) (.slice Ao35 t212.length co35) t212) ∧ Aside0 (Kd.R (Kd.int .i64) 3 wc w.heap.size (fun k_ => some k_ ≠ ((.slice Ao38 t209.length co38) : Value).ownBlock) (.slice Ao37 t221.length co37) t221) ∧ Aside0 (Kd.R k90 90 wc w.heap.size (fun k_ => k_ ≠ gb220) (.slice Ao34 t217.length co34) t217) ∧ Aside0 (wc.heap[gb198]? = some (.cells #[.int .i64 a1_0, .int .i64 a1_1, (.slice A1_2 l1_2.length c1_2)] 81 (0, 0))) ∧ Aside0 (wc.heap[gb220]? = some (.cells #[.int .i64 t215, .int .i64 t216, (.slice Ao34 t217.length co34)] 90 (0, 0))) ∧ Aside0 (Below w.heap.size w wc))
  case first =>
    have H := HC20.out; clear HC20
    by_cases c39 : t224 = true
    · subst c39; rw [if_pos rfl] at H; have H' := ak H; clear H
      go_wp2
      go_meet
      case rel => exact ⟨_, H', ⟨by have := HJ3.out; have := HJ8.out; first | omega | exact Nat.le_refl _⟩, ⟨by (with_reducible repeat (first | apply Kd.R_alloc | apply Kd.R_drewN | apply Kd.R_drew)); exact Kd.R_mono HO211.out (fun _ hk => hk.2)⟩, ⟨by (with_reducible repeat (first | apply Kd.R_alloc | apply Kd.R_drewN | apply Kd.R_drew)); exact Kd.R_mono HO214.out (fun _ hk => trivial)⟩, ⟨by (with_reducible repeat (first | apply Kd.R_alloc | apply Kd.R_drewN | apply Kd.R_drew)); exact Kd.R_mono HO223.out (fun _ hk => hk.2)⟩, ⟨by (with_reducible repeat (first | apply Kd.R_alloc | apply Kd.R_drewN | apply Kd.R_drew)); exact Kd.R_mono HO219.out (fun _ hk => hk.2)⟩, ⟨bk_ BK198.out⟩, ⟨bk_ BK220.out⟩, ⟨bs2_ HB.out GE198.out GE220.out⟩⟩
    replace c39 := Bool.eq_false_iff.mpr c39; subst c39; rw [if_neg (show ¬ (false = true) by decide)] at H; obtain rfl := Option.some.inj H
    go_wp2
    go_ret
    exact fin_ (bs2_ HB.out GE198.out GE220.out)
  clear HC20; (try clear p2); (try clear c3); (try clear c6); (try clear c13); (try clear c32); (try clear c39); (try clear hcz28_0); (try clear hcz28_1); (try clear hcz28_2); (try clear hcz33_0); (try clear hcz33_1); (try clear hcz33_2); (try clear hfz28_0); (try clear hfz28_1); (try clear hfz28_2); (try clear hfz33_0); (try clear hfz33_1); (try clear hfz33_2); (try clear p2); obtain ⟨kq, HA, HJ19, HO_6, HO_7, HO_9, HO_221002, BK198, BK220, HB⟩ := hcut
  cases kq with
  | zero => exact absurd HA.out (by simp [laws_FnExactFinger.j2])
  | succ kj19 => ?_
  have H := HA.out; clear HA
  simp only [laws_FnExactFinger.j2] at H
  replace H := Option.bind_eq_some_iff.mp H; obtain ⟨t225, A400, H⟩ := H; have A40 := ak A400; clear A400; replace H := Option.bind_eq_some_iff.mp H; obtain ⟨t228, A410, H⟩ := H; have A41 := ak A410; clear A410; have HC42 := ak H; clear H
  go_upto_if 44 with (first | ((with_reducible refine gate_callee (f := 58) rfl ?_); refine goesM_ (some 42) rfl rfl Try.func58 (by kernel_rfl) rfl #[.slice A0 l0.length c0] rfl ?_; (with_reducible refine (laws_toSymS.calls kj19 _ _ l0 t225 _ ?side1 ?side2 A40.out).mono ?_); (case side1 => exact cb_ HR0.out HB.out); (case side2 => exact HC0.out); rintro e w43 ⟨v226, rfl, ho0, hb⟩; refine ⟨_, rfl, ?_⟩; replace HO_6 := ak (Kd.R_below (ra_ HO_6.out) hb); replace HO_9 := ak (Kd.R_below (ra_ HO_9.out) hb); replace HO_221002 := ak (Kd.R_below (ra_ HO_221002.out) hb); have HO227 := ak (Kd.R_lower (Kd.R_new' ho0 (Kd.R_lt (ra_ HO_7.out))) (below_size (bs2_ HB.out GE198.out GE220.out))); replace HO_7 := ak (Kd.R_elder' (ra_ HO_7.out) (Kd.R_base ho0) hb); replace BK198 := ak (blk_below (bk_ BK198.out) hb); replace BK220 := ak (blk_below (bk_ BK220.out) hb); replace HB := ak (below_step (bs2_ HB.out GE198.out GE220.out) hb); (try clear hb); (try clear hb2); (try clear hk); (try clear hi); (try clear ho0); obtain ⟨Ao44, co44, eo44⟩ := Kd.R_slice HO227.out; subst eo44) | ((with_reducible refine gate_callee (f := 62) rfl ?_); refine goesM_ (some 43) rfl rfl Try.func62 (by kernel_rfl) rfl #[.slice Ao35 t212.length co35, .slice Ao44 t225.length co44] rfl ?_; (with_reducible refine (laws_eqSymS.calls kj19 _ _ t212 _ _ t225 t228 _ ?side1 ?side2 ?side3 ?side4 A41.out).mono ?_); (case side1 => exact ca_ (Kd.R_reads' HO_7.out).2.2); (case side2 => exact (Kd.R_reads' HO_7.out).2.1); (case side3 => exact ca_ (Kd.R_reads' HO227.out).2.2); (case side4 => exact (Kd.R_reads' HO227.out).2.1); rintro e w45 ⟨rfl, hb⟩; refine ⟨_, rfl, ?_⟩; replace HO_6 := ak (Kd.R_below (ra_ HO_6.out) hb); replace HO_7 := ak (Kd.R_below (ra_ HO_7.out) hb); replace HO_9 := ak (Kd.R_below (ra_ HO_9.out) hb); replace HO_221002 := ak (Kd.R_below (ra_ HO_221002.out) hb); replace HO227 := ak (Kd.R_below (ra_ HO227.out) hb); replace BK198 := ak (blk_below (bk_ BK198.out) hb); replace BK220 := ak (blk_below (bk_ BK220.out) hb); replace HB := ak (below_step (bs2_ HB.out GE198.out GE220.out) hb); (try clear hb); (try clear hb2); (try clear hk); (try clear hi)))
  (try simp only [Act.put, List.setIfInBounds_toArray, List.set_cons_zero, List.set_cons_succ])
  go_cut [] (fun wc => ∃ (kq : Nat), Aside0 (laws_FnExactFinger.j3 kq l0 t209 t212 t221 a1_0 a1_1 l1_2 t215 t216 t217 = some r) ∧ Aside0 (kq ≤ kj19) ∧ Aside0 (Kd.R (Kd.int .i64) 3 wc w.heap.size (fun k_ => some k_ ≠ ((.slice Ao37 t221.length co37) : Value).ownBlock) (.slice Ao38 t209.length co38) t209) ∧ Aside0 (Kd.R k119 119 wc w.heap.size (fun _ => True) (.slice Ao35 t212.length co35) t212) ∧ Aside0 (Kd.R (Kd.int .i64) 3 wc w.heap.size (fun k_ => some k_ ≠ ((.slice Ao38 t209.length co38) : Value).ownBlock) (.slice Ao37 t221.length co37) t221) ∧ Aside0 (Kd.R k90 90 wc w.heap.size (fun k_ => k_ ≠ gb220) (.slice Ao34 t217.length co34) t217) ∧ Aside0 (wc.heap[gb198]? = some (.cells #[.int .i64 a1_0, .int .i64 a1_1, (.slice A1_2 l1_2.length c1_2)] 81 (0, 0))) ∧ Aside0 (wc.heap[gb220]? = some (.cells #[.int .i64 t215, .int .i64 t216, (.slice Ao34 t217.length co34)] 90 (0, 0))) ∧ Aside0 (Below w.heap.size w wc))
  case first =>
    have H := HC42.out; clear HC42
    by_cases c46 : t228 = true
    · subst c46; rw [if_pos rfl] at H; have H' := ak H; clear H
      go_wp2
      go_meet
      case rel => exact ⟨_, H', ⟨by have := HJ3.out; have := HJ8.out; have := HJ19.out; first | omega | exact Nat.le_refl _⟩, ⟨ra_ HO_6.out⟩, ⟨by (with_reducible repeat (first | apply Kd.R_alloc | apply Kd.R_drewN | apply Kd.R_drew)); exact Kd.R_mono HO_7.out (fun _ hk => trivial)⟩, ⟨ra_ HO_9.out⟩, ⟨ra_ HO_221002.out⟩, ⟨bk_ BK198.out⟩, ⟨bk_ BK220.out⟩, ⟨bs2_ HB.out GE198.out GE220.out⟩⟩
    replace c46 := Bool.eq_false_iff.mpr c46; subst c46; rw [if_neg (show ¬ (false = true) by decide)] at H; obtain rfl := Option.some.inj H
    go_wp2
    go_ret
    exact fin_ (bs2_ HB.out GE198.out GE220.out)
  clear HC42; (try clear p2); (try clear c4); (try clear c46); (try clear p2); obtain ⟨kq, HA, HJ41, HO_6, HO_7, HO_9, HO_221002, BK198, BK220, HB⟩ := hcut
  cases kq with
  | zero => exact absurd HA.out (by simp [laws_FnExactFinger.j3])
  | succ kj41 => ?_
  have H := HA.out; clear HA
  simp only [laws_FnExactFinger.j3] at H
  replace H := Option.bind_eq_some_iff.mp H; obtain ⟨⟨t229, t230, t231⟩, A470, H⟩ := H; dsimp only at H; have A47 := ak A470; clear A470; replace H := Option.bind_eq_some_iff.mp H; obtain ⟨t234, A480, H⟩ := H; have A48 := ak A480; clear A480; have HC49 := ak H; clear H
  try go_wp2
  replace HO_6 := ak (Kd.R_drew HO_6.out); replace HO_7 := ak (Kd.R_drew HO_7.out); replace HO_9 := ak (Kd.R_drew HO_9.out); replace HO_221002 := ak (Kd.R_drew HO_221002.out); replace BK198 := ak (blk_drew BK198.out); replace BK220 := ak (blk_drew BK220.out); replace HB := ak (below_drew1 HB.out); refine start_ (n := 5) (S := fun w' => w'.cell? ⟨gb220, 0, none⟩ = some (.int .i64 t215) ∧ w'.cell? ⟨gb220, 1, none⟩ = some (.int .i64 t216) ∧ w'.cell? ⟨gb220, 2, none⟩ = some (.slice Ao34 t217.length co34) ∧ w'.cell? ⟨gb198, 0, none⟩ = some (.int .i64 a1_0) ∧ w'.cell? ⟨gb198, 1, none⟩ = some (.int .i64 a1_1) ∧ w'.cell? ⟨gb198, 2, none⟩ = some (.slice A1_2 l1_2.length c1_2)) (ds := []) #[false, false, false, false, false] (by kernel_rfl) rfl rfl ⟨(blk_cell BK220.out 0).trans rfl, (blk_cell BK220.out 1).trans rfl, (blk_cell BK220.out 2).trans rfl, (blk_cell BK198.out 0).trans rfl, (blk_cell BK198.out 1).trans rfl, (blk_cell BK198.out 2).trans rfl⟩ (fun hHeld => ?_)
  generalize wc.drew = w50 at HO_6 HO_7 HO_9 HO_221002 BK198 BK220 HB hHeld ⊢
  refine take_ (i := 0) (N := some 45) (v := ?_) (a' := ?_) #[true, false, false, false, false] rfl rfl (by kernel_rfl) (fun _ _ _ h => h) (Or.inl ⟨by rfl, ?_⟩) hHeld ?_ ?_
  rotate_left
  · rintro w' ⟨s0, s1, s2, s3, s4, s5⟩
    go_simp
    with_reducible rfl
  rotate_left
  · simp only [Act.put, List.setIfInBounds_toArray, List.set_cons_zero, List.set_cons_succ, i64_w, i32_w]
    rfl
  refine take_ (i := 1) (N := some 46) (v := ?_) (a' := ?_) #[true, true, false, false, false] rfl rfl (by kernel_rfl) (fun _ _ _ h => h) (Or.inl ⟨by rfl, ?_⟩) hHeld ?_ ?_
  rotate_left
  · rintro w' ⟨s0, s1, s2, s3, s4, s5⟩
    go_simp
    with_reducible rfl
  rotate_left
  · simp only [Act.put, List.setIfInBounds_toArray, List.set_cons_zero, List.set_cons_succ, i64_w, i32_w]
    rfl
  refine one_ (i := 2) (N := some 47) #[true, true, true, false, false] rfl rfl (by kernel_rfl) (by decide) (fun K hK => ?_); refine goesB_ Try.func59 (by kernel_rfl) rfl #[.agg #[.int .i64 a1_0, .int .i64 a1_1, .slice A1_2 l1_2.length c1_2]] (by rfl) rfl rfl ?_
  with_reducible refine (laws_toTerm.calls kj41 a1_0 a1_1 _ _ l1_2 t229 t230 t231 _ ?side1 ?side2 A47.out).mono ?_
  (case side1 => exact cb_ HR1_2.out HB.out); (case side2 => exact HC1_2.out); rintro e w51 ⟨v232, rfl, ho0, hb⟩; refine ⟨_, rfl, ?_⟩; replace HO_6 := ak (Kd.R_below (ra_ HO_6.out) hb); replace HO_7 := ak (Kd.R_below (ra_ HO_7.out) hb); replace HO_9 := ak (Kd.R_below (ra_ HO_9.out) hb); replace HO_221002 := ak (Kd.R_below (ra_ HO_221002.out) hb); have HO233 := ak (Kd.R_lower (Kd.R_newB ho0 (g := gb220) (o := .cells #[.int .i64 t215, .int .i64 t216, .slice Ao34 t217.length co34] 90 (0, 0)) (bk_ BK220.out)) (below_size (bs2_ HB.out GE198.out GE220.out))); replace BK198 := ak (blk_below (bk_ BK198.out) hb); replace BK220 := ak (blk_below (bk_ BK220.out) hb); replace HB := ak (below_step (bs2_ HB.out GE198.out GE220.out) hb); (try clear hb); (try clear hb2); (try clear hk); (try clear hi); (try clear ho0); obtain ⟨Ao52, co52, eo52⟩ := Kd.R_slice HO233.out; (first | subst eo52 | (injection eo52 with f1_ f2_ f3_; have f4_ := f1_.symm; have f5_ := f3_.symm; clear f1_ f2_ f3_; subst f4_; subst f5_)); refine hK.out _ _ ⟨(blk_cell BK220.out 0).trans rfl, (blk_cell BK220.out 1).trans rfl, (blk_cell BK220.out 2).trans rfl, (blk_cell BK198.out 0).trans rfl, (blk_cell BK198.out 1).trans rfl, (blk_cell BK198.out 2).trans rfl⟩ (fun hHeld => ?_); clear hK K; refine norm_ (a' := ?_) ?_ ?_
  rotate_left
  · show Act.put _ (some 47) _ = _
    simp only [Act.put, List.setIfInBounds_toArray, List.set_cons_zero, List.set_cons_succ, i64_w, i32_w]
    rfl
  refine one_ (i := 3) (N := some 48) #[true, true, true, true, false] rfl rfl (by kernel_rfl) (by decide) (fun K hK => ?_); refine goesB_ Try.func63 (by kernel_rfl) rfl #[.agg #[.int .i64 t215, .int .i64 t216, .slice Ao34 t217.length co34], .agg #[.int .i64 t229, .int .i64 t230, .slice Ao52 t231.length co52]] (by rfl) rfl rfl ?_
  with_reducible refine (laws_eqTerm.calls kj41 t215 t216 _ _ t217 t229 t230 _ _ t231 t234 _ ?side1 ?side2 ?side3 ?side4 A48.out).mono ?_
  (case side1 => exact ca_ (Kd.R_reads' HO_221002.out).2.2); (case side2 => exact (Kd.R_reads' HO_221002.out).2.1); (case side3 => exact ca_ (Kd.R_reads' HO233.out).2.2); (case side4 => exact (Kd.R_reads' HO233.out).2.1); rintro e w53 ⟨rfl, hb⟩; refine ⟨_, rfl, ?_⟩; replace HO_6 := ak (Kd.R_below (ra_ HO_6.out) hb); replace HO_7 := ak (Kd.R_below (ra_ HO_7.out) hb); replace HO_9 := ak (Kd.R_below (ra_ HO_9.out) hb); replace HO_221002 := ak (Kd.R_below (ra_ HO_221002.out) hb); replace HO233 := ak (Kd.R_below (ra_ HO233.out) hb); replace BK198 := ak (blk_below (bk_ BK198.out) hb); replace BK220 := ak (blk_below (bk_ BK220.out) hb); replace HB := ak (below_step (bs2_ HB.out GE198.out GE220.out) hb); (try clear hb); (try clear hb2); (try clear hk); (try clear hi); refine hK.out _ _ ⟨(blk_cell BK220.out 0).trans rfl, (blk_cell BK220.out 1).trans rfl, (blk_cell BK220.out 2).trans rfl, (blk_cell BK198.out 0).trans rfl, (blk_cell BK198.out 1).trans rfl, (blk_cell BK198.out 2).trans rfl⟩ (fun hHeld => ?_); clear hK K; refine norm_ (a' := ?_) ?_ ?_
  rotate_left
  · show Act.put _ (some 48) _ = _
    simp only [Act.put, List.setIfInBounds_toArray, List.set_cons_zero, List.set_cons_succ, i64_w, i32_w]
    rfl
  refine pure_ (i := 4) (N := some 49) (v := ?_) (a' := ?_) #[true, true, true, true, true] rfl rfl (by kernel_rfl) (fun _ _ _ h => h) (Or.inl ⟨by rfl, ?_⟩) ?_ ?_
  rotate_left
  · intro w'
    go_simp
    with_reducible rfl
  rotate_left
  · simp only [Act.put, List.setIfInBounds_toArray, List.set_cons_zero, List.set_cons_succ, i64_w, i32_w]
    rfl
  refine done_ (by kernel_rfl) ?_
  go_upto_if 49 with (fail)
  go_cut [] (fun wc => ∃ (kq : Nat), Aside0 (laws_FnExactFinger.j4 kq l0 t209 t212 t221 a1_0 a1_1 l1_2 t215 t216 t217 = some r) ∧ Aside0 (kq ≤ kj41) ∧ Aside0 (Kd.R (Kd.int .i64) 3 wc w.heap.size (fun k_ => some k_ ≠ ((.slice Ao37 t221.length co37) : Value).ownBlock) (.slice Ao38 t209.length co38) t209) ∧ Aside0 (Kd.R k119 119 wc w.heap.size (fun _ => True) (.slice Ao35 t212.length co35) t212) ∧ Aside0 (Kd.R (Kd.int .i64) 3 wc w.heap.size (fun k_ => some k_ ≠ ((.slice Ao38 t209.length co38) : Value).ownBlock) (.slice Ao37 t221.length co37) t221) ∧ Aside0 (Kd.R k90 90 wc w.heap.size (fun k_ => k_ ≠ gb220) (.slice Ao34 t217.length co34) t217) ∧ Aside0 (wc.heap[gb198]? = some (.cells #[.int .i64 a1_0, .int .i64 a1_1, (.slice A1_2 l1_2.length c1_2)] 81 (0, 0))) ∧ Aside0 (wc.heap[gb220]? = some (.cells #[.int .i64 t215, .int .i64 t216, (.slice Ao34 t217.length co34)] 90 (0, 0))) ∧ Aside0 (Below w.heap.size w wc))
  case first =>
    have H := HC49.out; clear HC49
    by_cases c54 : t234 = true
    · subst c54; rw [if_pos rfl] at H; have H' := ak H; clear H
      go_wp2
      go_meet
      case rel => exact ⟨_, H', ⟨by have := HJ3.out; have := HJ8.out; have := HJ19.out; have := HJ41.out; first | omega | exact Nat.le_refl _⟩, ⟨ra_ HO_6.out⟩, ⟨ra_ HO_7.out⟩, ⟨ra_ HO_9.out⟩, ⟨ra_ HO_221002.out⟩, ⟨bk_ BK198.out⟩, ⟨bk_ BK220.out⟩, ⟨bs2_ HB.out GE198.out GE220.out⟩⟩
    replace c54 := Bool.eq_false_iff.mpr c54; subst c54; rw [if_neg (show ¬ (false = true) by decide)] at H; obtain rfl := Option.some.inj H
    go_wp2
    go_ret
    exact fin_ (bs2_ HB.out GE198.out GE220.out)
  clear HC49; (try clear p2); (try clear c54); (try clear p2); obtain ⟨kq, HA, HJ48, HO_6, HO_7, HO_9, HO_221002, BK198, BK220, HB⟩ := hcut
  cases kq with
  | zero => exact absurd HA.out (by simp [laws_FnExactFinger.j4])
  | succ kj48 => ?_
  have H := HA.out; clear HA
  simp only [laws_FnExactFinger.j4] at H
  replace H := Option.bind_eq_some_iff.mp H; obtain ⟨⟨t235, t236⟩, A550, H⟩ := H; dsimp only at H; have A55 := ak A550; clear A550; replace H := Option.bind_eq_some_iff.mp H; obtain ⟨t237, A560, H⟩ := H; have A56 := ak A560; clear A560; have HC57 := ak H; clear H
  go_upto_region 21 with (first | ((with_reducible refine gate_callee (f := 64) rfl ?_); refine goesM_ (some 52) rfl rfl Try.func64 (by kernel_rfl) rfl #[.slice Ao35 t212.length co35, .int .i64 1] rfl ?_; (with_reducible refine (laws_markSymS.calls kj48 (fun k_ => some k_ = (.slice Ao35 t212.length co35 : Value).ownBlock) (.slice Ao35 t212.length co35) t212 1 t235 t236 w _ ?side1 ?side2 A55.out).mono ?_); (case side1 => repeat (first | (with_reducible first | exact HB.out | apply below_alloc | apply pw_below_drewN | apply below_drew1 | refine below_set ?_ GE198.out | refine below_set ?_ GE220.out) | exact HB.out)); (case side2 => exact Kd.R_tight rfl HO_7.out); rintro e w58 ⟨rfl, hy0, hb, hkp⟩; refine ⟨_, rfl, ?_⟩; replace HO_6 := ak (Kd.R_mono (ok' := fun k_ => some k_ ≠ (.slice Ao37 t221.length co37 : Value).ownBlock) (Kd.R_keptB ((Kd.R_apart' HO_6.out (Kd.R_typed HO_7.out) (by decide))) hkp (fun k_ hk_ hs_ => (hk_.2) hs_)) (fun k_ hk_ => hk_.1.1)); replace HO_9 := ak (Kd.R_mono (ok' := fun k_ => some k_ ≠ (.slice Ao38 t209.length co38 : Value).ownBlock) (Kd.R_keptB ((Kd.R_apart' HO_9.out (Kd.R_typed HO_7.out) (by decide))) hkp (fun k_ hk_ hs_ => (hk_.2) hs_)) (fun k_ hk_ => hk_.1.1)); replace HO_221002 := ak (Kd.R_mono (ok' := fun k_ => k_ ≠ gb220) (Kd.R_keptB ((Kd.R_apart' HO_221002.out (Kd.R_typed HO_7.out) (by decide))) hkp (fun k_ hk_ hs_ => (hk_.2) hs_)) (fun k_ hk_ => hk_.1.1)); replace BK198 := ak (blk_kept (bk_ BK198.out) hkp (fun hs_ => (fun e_ => (Kd.R_ne HO_7.out BK198.out (by decide)) e_) hs_)); replace BK220 := ak (blk_kept (bk_ BK220.out) hkp (fun hs_ => (fun e_ => (Kd.R_ne HO_7.out BK220.out (by decide)) e_) hs_)); replace HO_7 := ak (Kd.R_reok rfl hy0 (fun k_ e_ => HO_7.out.1 k_ e_)); replace HB := ak (hb); (try clear hb); (try clear hkp); (try clear hy0); have hnb59 := NB220_198.out; have hnc59 := NB198_220.out; have hcz60_0 := bc_ BK220.out 0; have hcz60_1 := bc_ BK220.out 1; have hcz60_2 := bc_ BK220.out 2; have hfz60_0 := blk_frozen BK220.out 0; have hfz60_1 := blk_frozen BK220.out 1; have hfz60_2 := blk_frozen BK220.out 2) | ((with_reducible refine gate_callee (f := 65) rfl ?_); refine goesM_ (some 55) rfl rfl Try.func65 (by kernel_rfl) rfl #[.agg #[.int .i64 t215, .int .i64 t216, .slice Ao34 t217.length co34], .int .i64 t235] rfl ?_; (with_reducible refine (laws_markTerm.callsE kj48 (fun k_ => k_ ≠ gb220) t215 t216 Ao34 t217.length co34 t217 t235 t237 w _ ?side1 ?side2 A56.out).mono ?_); (case side1 => repeat (first | (with_reducible first | exact HB.out | apply below_alloc | apply pw_below_drewN | apply below_drew1 | refine below_set ?_ GE198.out | refine below_set ?_ GE220.out) | exact HB.out)); (case side2 => exact by (with_reducible repeat (first | apply Kd.R_alloc | apply Kd.R_drewN | apply Kd.R_drew)); exact HO_221002.out); rintro e w62 ⟨P61, hPoP61, hPtP61, rfl, hb, hkp⟩; refine ⟨_, rfl, ?_⟩; replace HO_6 := ak (Kd.R_mono (Kd.R_kept (gR_off (ra_ HO_6.out) hPtP61 (by decide)) hkp (fun k_ hk_ => hk_.2)) (fun _ h_ => h_.1)); replace HO_7 := ak (Kd.R_mono (Kd.R_kept (gR_off (ra_ HO_7.out) hPtP61 (by decide)) hkp (fun k_ hk_ => hk_.2)) (fun _ h_ => h_.1)); replace HO_9 := ak (Kd.R_mono (Kd.R_kept (gR_off (ra_ HO_9.out) hPtP61 (by decide)) hkp (fun k_ hk_ => hk_.2)) (fun _ h_ => h_.1)); replace BK198 := ak (blk_kept (bk_ BK198.out) hkp (gP_box hPtP61 (bk_ BK198.out) (by decide))); replace BK220 := ak (blk_kept (bk_ BK220.out) hkp (fun hs_ => ((hPoP61 _ hs_)) rfl)); replace HB := ak (hb); clear HO_221002; (try clear hb); (try clear hkp); (try clear hy0); clear hPoP61 hPtP61; clear P61))
  (try simp only [Act.put, List.setIfInBounds_toArray, List.set_cons_zero, List.set_cons_succ])
  go_cut [63] (fun v63 wc => ∃ (kq : Nat) (x63_56 : Bool), v63 = .bool x63_56 ∧ Aside0 (laws_FnExactFinger.j5 kq l0 t209 t221 x63_56 a1_0 a1_1 l1_2 = some r) ∧ Aside0 (kq ≤ kj48) ∧ Aside0 (Kd.R (Kd.int .i64) 3 wc w.heap.size (fun k_ => some k_ ≠ ((.slice Ao37 t221.length co37) : Value).ownBlock) (.slice Ao38 t209.length co38) t209) ∧ Aside0 (Kd.R (Kd.int .i64) 3 wc w.heap.size (fun k_ => some k_ ≠ ((.slice Ao38 t209.length co38) : Value).ownBlock) (.slice Ao37 t221.length co37) t221) ∧ Aside0 (wc.heap[gb198]? = some (.cells #[.int .i64 a1_0, .int .i64 a1_1, (.slice A1_2 l1_2.length c1_2)] 81 (0, 0))) ∧ Aside0 (Below w.heap.size w wc))
  case first =>
    have H := HC57.out; clear HC57
    by_cases c63 : t237 < 0
    · rw [if_pos c63] at H; have c63b0 := decide_eq_true c63; clear c63; (first | rw [c63b0] | (simp only [i64_w, i32_w]; rw [c63b0]) | (rw [show ∀ x_ y_ : Bool, (!(x_ == y_)) = (x_ != y_) from fun _ _ => rfl, c63b0]) | skip); have H' := ak H; clear H
      go_wp2
      go_meet
      case rel => exact ⟨_, (true), (by first | rfl | (simp; done) | (simp [*]; done)), H', ⟨by have := HJ3.out; have := HJ8.out; have := HJ19.out; have := HJ41.out; have := HJ48.out; first | omega | exact Nat.le_refl _⟩, ⟨ra_ HO_6.out⟩, ⟨ra_ HO_9.out⟩, ⟨bk_ BK198.out⟩, ⟨bs2_ HB.out GE198.out GE220.out⟩⟩
    rw [if_neg c63] at H; have c63b0 := decide_eq_false c63; clear c63; (first | rw [c63b0] | (simp only [i64_w, i32_w]; rw [c63b0]) | (rw [show ∀ x_ y_ : Bool, (!(x_ == y_)) = (x_ != y_) from fun _ _ => rfl, c63b0]) | skip); replace H := Option.bind_eq_some_iff.mp H; obtain ⟨t238, A640, H⟩ := H; have A64 := ak A640; clear A640; have H' := ak H; clear H
    go_wp2_with (first | (go_at_call 61; (with_reducible refine (laws_eqIntS.calls kj48 _ _ t221 _ _ t209 t238 _ ?side1 ?side2 ?side3 ?side4 A64.out).mono ?_); (case side1 => exact ca_ (Kd.R_reads' HO_9.out).2.2); (case side2 => exact (Kd.R_reads' HO_9.out).2.1); (case side3 => exact ca_ (Kd.R_reads' HO_6.out).2.2); (case side4 => exact (Kd.R_reads' HO_6.out).2.1); rintro e w' ⟨rfl, ⟨nd, rfl⟩⟩))
    go_meet
    case rel => exact ⟨_, (!t238), (by first | rfl | (simp; done) | (simp [*]; done)), H', ⟨by have := HJ3.out; have := HJ8.out; have := HJ19.out; have := HJ41.out; have := HJ48.out; first | omega | exact Nat.le_refl _⟩, ⟨ra_ HO_6.out⟩, ⟨ra_ HO_9.out⟩, ⟨bk_ BK198.out⟩, ⟨bs2_ HB.out GE198.out GE220.out⟩⟩
  clear HC57; (try clear p2); (try clear c57); (try clear c58); (try clear c59); (try clear c60); (try clear c61); (try clear c62); (try clear c63); (try clear c63b0); (try clear c64); (try clear hcz60_0); (try clear hcz60_1); (try clear hcz60_2); (try clear hfz60_0); (try clear hfz60_1); (try clear hfz60_2); (try clear p2); obtain ⟨kq, x63_56, rfl, HA, HJ56, HO_6, HO_9, BK198, HB⟩ := hcut
  cases kq with
  | zero => exact absurd HA.out (by simp [laws_FnExactFinger.j5])
  | succ kj56 => ?_
  have H := HA.out; clear HA
  simp only [laws_FnExactFinger.j5] at H
  have HC65 := ak H; clear H
  go_upto_if 63 with (fail)
  go_cut [] (fun wc => ∃ (kq : Nat), Aside0 (laws_FnExactFinger.j6 kq l0 t209 t221 a1_0 a1_1 l1_2 = some r) ∧ Aside0 (kq ≤ kj56) ∧ Aside0 (Kd.R (Kd.int .i64) 3 wc w.heap.size (fun k_ => some k_ ≠ ((.slice Ao37 t221.length co37) : Value).ownBlock) (.slice Ao38 t209.length co38) t209) ∧ Aside0 (Kd.R (Kd.int .i64) 3 wc w.heap.size (fun k_ => some k_ ≠ ((.slice Ao38 t209.length co38) : Value).ownBlock) (.slice Ao37 t221.length co37) t221) ∧ Aside0 (wc.heap[gb198]? = some (.cells #[.int .i64 a1_0, .int .i64 a1_1, (.slice A1_2 l1_2.length c1_2)] 81 (0, 0))) ∧ Aside0 (Below w.heap.size w wc))
  case first =>
    have H := HC65.out; clear HC65
    by_cases c66 : x63_56 = true
    · subst c66; rw [if_pos rfl] at H; obtain rfl := Option.some.inj H
      go_wp2
      go_ret
      exact fin_ (bs1_ HB.out GE198.out)
    replace c66 := Bool.eq_false_iff.mpr c66; subst c66; rw [if_neg (show ¬ (false = true) by decide)] at H; have H' := ak H; clear H
    go_wp2
    go_meet
    case rel => exact ⟨_, H', ⟨by have := HJ3.out; have := HJ8.out; have := HJ19.out; have := HJ41.out; have := HJ48.out; have := HJ56.out; first | omega | exact Nat.le_refl _⟩, ⟨ra_ HO_6.out⟩, ⟨ra_ HO_9.out⟩, ⟨bk_ BK198.out⟩, ⟨bs1_ HB.out GE198.out⟩⟩
  clear HC65; (try clear p2); (try clear c65); (try clear c66); (try clear p2); obtain ⟨kq, HA, HJ64, HO_6, HO_9, BK198, HB⟩ := hcut
  cases kq with
  | zero => exact absurd HA.out (by simp [laws_FnExactFinger.j6])
  | succ kj64 => ?_
  have H := HA.out; clear HA
  simp only [laws_FnExactFinger.j6] at H
  replace H := Option.bind_eq_some_iff.mp H; obtain ⟨⟨t239, t240⟩, A670, H⟩ := H; dsimp only at H; have A67 := ak A670; clear A670; replace H := Option.bind_eq_some_iff.mp H; obtain ⟨t241, A680, H⟩ := H; have A68 := ak A680; clear A680; have HC69 := ak H; clear H
  go_upto_if 71 with (first | ((with_reducible refine gate_callee (f := 66) rfl ?_); refine goesM_ (some 66) rfl rfl Try.func66 (by kernel_rfl) rfl #[.slice Ao37 t221.length co37, .int .i64 1] rfl ?_; (with_reducible refine (laws_markIntS.calls kj64 (fun k_ => some k_ = (.slice Ao37 t221.length co37 : Value).ownBlock) (.slice Ao37 t221.length co37) t221 1 t239 t240 w _ ?side1 ?side2 A67.out).mono ?_); (case side1 => repeat (first | (with_reducible first | exact HB.out | apply below_alloc | apply pw_below_drewN | apply below_drew1 | refine below_set ?_ GE198.out) | exact HB.out)); (case side2 => exact Kd.R_tight rfl HO_9.out); rintro e w70 ⟨rfl, hy0, hb, hkp⟩; refine ⟨_, rfl, ?_⟩; replace HO_6 := ak (Kd.R_mono (ok' := fun k_ => some k_ ≠ (.slice Ao37 t221.length co37 : Value).ownBlock) (Kd.R_keptB (HO_6.out) hkp (fun k_ hk_ hs_ => (hk_) hs_)) (fun k_ hk_ => hk_.1)); replace BK198 := ak (blk_kept (bk_ BK198.out) hkp (fun hs_ => (fun e_ => (Kd.R_ne HO_9.out BK198.out (by decide)) e_) hs_)); replace HO_9 := ak (Kd.R_reok rfl hy0 (fun k_ e_ => HO_9.out.1 k_ e_)); replace HB := ak (hb); (try clear hb); (try clear hkp); (try clear hy0)) | ((with_reducible refine gate_callee (f := 67) rfl ?_); refine goesL_ (some 69) rfl rfl Try.func67 (by kernel_rfl) rfl #[.slice Ao37 t240.length co37, .int .i64 1] rfl (by (try simp only [List.map_toArray, List.map_cons, List.map_nil]); first | done | (rw [show t240.length = t221.length from (Kd.R_reads' HO_9.out).1.symm] <;> rfl) | rfl | (simp only [List.length_drop, List.length_take]; rfl)) ?_; (with_reducible refine (laws_heldIntS.calls kj64 _ _ t240 1 t241 _ ?side1 ?side2 A68.out).mono ?_); (case side1 => exact ca_ (Kd.R_reads' HO_9.out).2.2); (case side2 => rw [show t240.length = t221.length from (Kd.R_reads' HO_9.out).1.symm]; exact (Kd.R_reads' HO_9.out).2.1); rintro e w' ⟨rfl, ⟨nd, rfl⟩⟩; refine ⟨_, rfl, ?_⟩))
  (try simp only [Act.put, List.setIfInBounds_toArray, List.set_cons_zero, List.set_cons_succ])
  go_cut [] (fun wc => ∃ (kq : Nat), Aside0 (laws_FnExactFinger.j7 kq l0 t209 t240 t239 t241 a1_0 a1_1 l1_2 = some r) ∧ Aside0 (kq ≤ kj64) ∧ Aside0 (Kd.R (Kd.int .i64) 3 wc w.heap.size (fun k_ => some k_ ≠ ((.slice Ao37 t221.length co37) : Value).ownBlock) (.slice Ao38 t209.length co38) t209) ∧ Aside0 (Kd.R (Kd.int .i64) 3 wc w.heap.size (fun k_ => some k_ ≠ ((.slice Ao38 t209.length co38) : Value).ownBlock) (.slice Ao37 t221.length co37) t240) ∧ Aside0 (wc.heap[gb198]? = some (.cells #[.int .i64 a1_0, .int .i64 a1_1, (.slice A1_2 l1_2.length c1_2)] 81 (0, 0))) ∧ Aside0 (Below w.heap.size w wc))
  case first =>
    have H := HC69.out; clear HC69
    by_cases c71 : t241 < 0
    · rw [if_pos c71] at H; have c71b0 := decide_eq_true c71; clear c71; (first | rw [c71b0] | (simp only [i64_w, i32_w]; rw [c71b0]) | (rw [show ∀ x_ y_ : Bool, (!(x_ == y_)) = (x_ != y_) from fun _ _ => rfl, c71b0]) | skip); obtain rfl := Option.some.inj H
      go_wp2
      go_ret
      exact fin_ (bs1_ HB.out GE198.out)
    rw [if_neg c71] at H; have c71b0 := decide_eq_false c71; clear c71; (first | rw [c71b0] | (simp only [i64_w, i32_w]; rw [c71b0]) | (rw [show ∀ x_ y_ : Bool, (!(x_ == y_)) = (x_ != y_) from fun _ _ => rfl, c71b0]) | skip); have H' := ak H; clear H
    go_wp2
    go_meet
    case rel => exact ⟨_, H', ⟨by have := HJ3.out; have := HJ8.out; have := HJ19.out; have := HJ41.out; have := HJ48.out; have := HJ56.out; have := HJ64.out; first | omega | exact Nat.le_refl _⟩, ⟨ra_ HO_6.out⟩, ⟨ra_ HO_9.out⟩, ⟨bk_ BK198.out⟩, ⟨bs1_ HB.out GE198.out⟩⟩
  clear HC69; (try clear p2); (try clear c67); (try clear c71); (try clear c71b0); (try clear p2); obtain ⟨kq, HA, HJ68, HO_6, HO_9, BK198, HB⟩ := hcut; have hl9_68 := (Kd.R_reads' HO_9.out).1; rw [hl9_68] at HO_9; (try simp only [hl9_68]); (try simp only [hl9_68] at BK198); (try simp only [hl9_68] at HO_6)
  cases kq with
  | zero => exact absurd HA.out (by simp [laws_FnExactFinger.j7])
  | succ kj68 => ?_
  have H := HA.out; clear HA
  simp only [laws_FnExactFinger.j7] at H
  have HC72 := ak H; clear H
  go_upto_if 74 with (fail)
  go_cut [] (fun wc => ∃ (kq : Nat), Aside0 (laws_FnExactFinger.j8 kq l0 t209 t240 t239 a1_0 a1_1 l1_2 = some r) ∧ Aside0 (kq ≤ kj68) ∧ Aside0 (Kd.R (Kd.int .i64) 3 wc w.heap.size (fun k_ => some k_ ≠ ((.slice Ao37 t240.length co37) : Value).ownBlock) (.slice Ao38 t209.length co38) t209) ∧ Aside0 (Kd.R (Kd.int .i64) 3 wc w.heap.size (fun k_ => some k_ ≠ ((.slice Ao38 t209.length co38) : Value).ownBlock) (.slice Ao37 t240.length co37) t240) ∧ Aside0 (wc.heap[gb198]? = some (.cells #[.int .i64 a1_0, .int .i64 a1_1, (.slice A1_2 l1_2.length c1_2)] 81 (0, 0))) ∧ Aside0 (Below w.heap.size w wc))
  case first =>
    have H := HC72.out; clear HC72
    by_cases c73 : t241 = t239
    · rw [if_pos c73] at H; have c73b0 : (t241 == t239) = true := beq_iff_eq.mpr c73; have c73b1 : (t241 != t239) = false := bne_eq_false_iff_eq.mpr c73; clear c73; (first | rw [c73b0] | (simp only [i64_w, i32_w]; rw [c73b0]) | (rw [show ∀ x_ y_ : Bool, (!(x_ == y_)) = (x_ != y_) from fun _ _ => rfl, c73b0]) | skip); have H' := ak H; clear H
      go_wp2
      go_meet
      case rel => exact ⟨_, H', ⟨by have := HJ3.out; have := HJ8.out; have := HJ19.out; have := HJ41.out; have := HJ48.out; have := HJ56.out; have := HJ64.out; have := HJ68.out; first | omega | exact Nat.le_refl _⟩, ⟨by (try simp only [hl9_68]); (with_reducible repeat (first | apply Kd.R_alloc | apply Kd.R_drewN | apply Kd.R_drew)); exact HO_6.out⟩, ⟨by (try simp only [hl9_68]); (with_reducible repeat (first | apply Kd.R_alloc | apply Kd.R_drewN | apply Kd.R_drew)); exact HO_9.out⟩, ⟨by (try simp only [hl9_68]); exact bk_ BK198.out⟩, ⟨bs1_ HB.out GE198.out⟩⟩
    rw [if_neg c73] at H; have c73b0 : (t241 == t239) = false := beq_eq_false_iff_ne.mpr c73; have c73b1 : (t241 != t239) = true := bne_iff_ne.mpr c73; (first | rw [c73b0] | (simp only [i64_w, i32_w]; rw [c73b0]) | (rw [show ∀ x_ y_ : Bool, (!(x_ == y_)) = (x_ != y_) from fun _ _ => rfl, c73b0]) | skip); obtain rfl := Option.some.inj H
    go_wp2
    go_ret
    exact fin_ (bs1_ HB.out GE198.out)
  clear HC72; (try clear p2); (try clear c73); (try clear c73b0); (try clear c73b1); (try clear p2); obtain ⟨kq, HA, HJ71, HO_6, HO_9, BK198, HB⟩ := hcut
  cases kq with
  | zero => exact absurd HA.out (by simp [laws_FnExactFinger.j8])
  | succ kj71 => ?_
  have H := HA.out; clear HA
  simp only [laws_FnExactFinger.j8] at H
  replace H := Option.bind_eq_some_iff.mp H; obtain ⟨t242, A740, H⟩ := H; have A74 := ak A740; clear A740; replace H := Option.bind_eq_some_iff.mp H; obtain ⟨⟨t245, t246, t247⟩, A750, H⟩ := H; dsimp only at H; have A75 := ak A750; clear A750; replace H := Option.bind_eq_some_iff.mp H; obtain ⟨t250, A760, H⟩ := H; have A76 := ak A760; clear A760; replace H := Option.bind_eq_some_iff.mp H; obtain ⟨t253, A770, H⟩ := H; have A77 := ak A770; clear A770; have HC78 := ak H; clear H
  try go_wp2
  replace HO_6 := ak (Kd.R_drew HO_6.out); replace HO_9 := ak (Kd.R_drew HO_9.out); replace BK198 := ak (blk_drew BK198.out); replace HB := ak (below_drew1 HB.out); refine start_ (n := 6) (S := fun w' => w'.cell? ⟨gb198, 0, none⟩ = some (.int .i64 a1_0) ∧ w'.cell? ⟨gb198, 1, none⟩ = some (.int .i64 a1_1) ∧ w'.cell? ⟨gb198, 2, none⟩ = some (.slice A1_2 l1_2.length c1_2)) (ds := []) #[false, false, false, false, false, false] (by kernel_rfl) rfl rfl ⟨(blk_cell BK198.out 0).trans rfl, (blk_cell BK198.out 1).trans rfl, (blk_cell BK198.out 2).trans rfl⟩ (fun hHeld => ?_)
  generalize wc.drew = w79 at HO_6 HO_9 BK198 HB hHeld ⊢
  refine pure_ (i := 0) (N := some 75) (v := ?_) (a' := ?_) #[true, false, false, false, false, false] rfl rfl (by kernel_rfl) (fun _ _ _ h => h) (Or.inl ⟨by rfl, ?_⟩) ?_ ?_
  rotate_left
  · intro w'
    go_simp
    with_reducible rfl
  rotate_left
  · simp only [Act.put, List.setIfInBounds_toArray, List.set_cons_zero, List.set_cons_succ, i64_w, i32_w]
    rfl
  refine take_ (i := 2) (N := some 77) (v := ?_) (a' := ?_) #[true, false, true, false, false, false] rfl rfl (by kernel_rfl) (fun _ _ _ h => h) (Or.inl ⟨by rfl, ?_⟩) hHeld ?_ ?_
  rotate_left
  · rintro w' ⟨s0, s1, s2⟩
    go_simp
    with_reducible rfl
  rotate_left
  · simp only [Act.put, List.setIfInBounds_toArray, List.set_cons_zero, List.set_cons_succ, i64_w, i32_w]
    rfl
  refine one_ (i := 1) (N := some 76) #[true, true, true, false, false, false] rfl rfl (by kernel_rfl) (by decide) (fun K hK => ?_); refine goesB_ Try.func58 (by kernel_rfl) rfl #[.slice A0 l0.length c0] (by rfl) rfl rfl ?_
  with_reducible refine (laws_toSymS.calls kj71 _ _ l0 t242 _ ?side1 ?side2 A74.out).mono ?_
  (case side1 => exact cb_ HR0.out HB.out); (case side2 => exact HC0.out); rintro e w80 ⟨v243, rfl, ho0, hb⟩; refine ⟨_, rfl, ?_⟩; replace HO_6 := ak (Kd.R_below (ra_ HO_6.out) hb); replace HO_9 := ak (Kd.R_below (ra_ HO_9.out) hb); have HO244 := ak (Kd.R_lower ho0 (below_size (bs1_ HB.out GE198.out))); replace BK198 := ak (blk_below (bk_ BK198.out) hb); replace HB := ak (below_step (bs1_ HB.out GE198.out) hb); (try clear hb); (try clear hb2); (try clear hk); (try clear hi); (try clear ho0); refine hK.out _ _ ⟨(blk_cell BK198.out 0).trans rfl, (blk_cell BK198.out 1).trans rfl, (blk_cell BK198.out 2).trans rfl⟩ (fun hHeld => ?_); clear hK K; refine norm_ (a' := ?_) ?_ ?_
  rotate_left
  · show Act.put _ (some 76) _ = _
    simp only [Act.put, List.setIfInBounds_toArray, List.set_cons_zero, List.set_cons_succ, i64_w, i32_w]
    rfl
  refine one_ (i := 3) (N := some 78) #[true, true, true, true, false, false] rfl rfl (by kernel_rfl) (by decide) (fun K hK => ?_); refine goesB_ Try.func59 (by kernel_rfl) rfl #[.agg #[.int .i64 a1_0, .int .i64 a1_1, .slice A1_2 l1_2.length c1_2]] (by rfl) rfl rfl ?_
  with_reducible refine (laws_toTerm.calls kj71 a1_0 a1_1 _ _ l1_2 t245 t246 t247 _ ?side1 ?side2 A75.out).mono ?_
  (case side1 => exact cb_ HR1_2.out HB.out); (case side2 => exact HC1_2.out); rintro e w81 ⟨v248, rfl, ho0, hb⟩; refine ⟨_, rfl, ?_⟩; replace HO_6 := ak (Kd.R_below (ra_ HO_6.out) hb); replace HO_9 := ak (Kd.R_below (ra_ HO_9.out) hb); replace HO244 := ak (Kd.R_below (ra_ HO244.out) hb); have HO249 := ak (Kd.R_lower ho0 (below_size (bs1_ HB.out GE198.out))); replace BK198 := ak (blk_below (bk_ BK198.out) hb); replace HB := ak (below_step (bs1_ HB.out GE198.out) hb); (try clear hb); (try clear hb2); (try clear hk); (try clear hi); (try clear ho0); obtain ⟨Ao82, co82, eo82⟩ := Kd.R_slice HO244.out; (first | subst eo82 | (injection eo82 with f1_ f2_ f3_; have f4_ := f1_.symm; have f5_ := f3_.symm; clear f1_ f2_ f3_; subst f4_; subst f5_)); obtain ⟨Ao83, co83, eo83⟩ := Kd.R_slice HO249.out; (first | subst eo83 | (injection eo83 with f1_ f2_ f3_; have f4_ := f1_.symm; have f5_ := f3_.symm; clear f1_ f2_ f3_; subst f4_; subst f5_)); refine hK.out _ _ ⟨(blk_cell BK198.out 0).trans rfl, (blk_cell BK198.out 1).trans rfl, (blk_cell BK198.out 2).trans rfl⟩ (fun hHeld => ?_); clear hK K; refine norm_ (a' := ?_) ?_ ?_
  rotate_left
  · show Act.put _ (some 78) _ = _
    simp only [Act.put, List.setIfInBounds_toArray, List.set_cons_zero, List.set_cons_succ, i64_w, i32_w]
    rfl
  refine one_ (i := 4) (N := some 79) #[true, true, true, true, true, false] rfl rfl (by kernel_rfl) (by decide) (fun K hK => ?_); refine goesB_ Try.func60 (by kernel_rfl) rfl #[.slice Ao82 t242.length co82, .agg #[.int .i64 t245, .int .i64 t246, .slice Ao83 t247.length co83]] (by rfl) rfl rfl ?_
  with_reducible refine (impl_Finger.calls kj71 _ _ t242 t245 t246 _ _ t247 t250 _ ?side1 ?side2 ?side3 ?side4 A76.out).mono ?_
  (case side1 => exact ca_ (Kd.R_reads' HO244.out).2.2); (case side2 => exact (Kd.R_reads' HO244.out).2.1); (case side3 => exact ca_ (Kd.R_reads' HO249.out).2.2); (case side4 => exact (Kd.R_reads' HO249.out).2.1); rintro e w84 ⟨v251, rfl, ho0, hb⟩; refine ⟨_, rfl, ?_⟩; replace HO244 := ak (Kd.R_below (ra_ HO244.out) hb); replace HO249 := ak (Kd.R_below (ra_ HO249.out) hb); have HO252 := ak (Kd.R_lower (Kd.R_new' (Kd.R_new' ho0 (Kd.R_lt (ra_ HO_6.out))) (Kd.R_lt (ra_ HO_9.out))) (below_size (bs1_ HB.out GE198.out))); replace HO_6 := ak (Kd.R_elder' (ra_ HO_6.out) (Kd.R_base ho0) hb); replace HO_9 := ak (Kd.R_elder' (ra_ HO_9.out) (Kd.R_base ho0) hb); replace BK198 := ak (blk_below (bk_ BK198.out) hb); replace HB := ak (below_step (bs1_ HB.out GE198.out) hb); (try clear hb); (try clear hb2); (try clear hk); (try clear hi); (try clear ho0); refine hK.out _ _ ⟨(blk_cell BK198.out 0).trans rfl, (blk_cell BK198.out 1).trans rfl, (blk_cell BK198.out 2).trans rfl⟩ (fun hHeld => ?_); clear hK K; refine norm_ (a' := ?_) ?_ ?_
  rotate_left
  · show Act.put _ (some 79) _ = _
    simp only [Act.put, List.setIfInBounds_toArray, List.set_cons_zero, List.set_cons_succ, i64_w, i32_w]
    rfl
  refine pure_ (i := 5) (N := some 13) (v := ?_) (a' := ?_) #[true, true, true, true, true, true] rfl rfl (by kernel_rfl) (fun _ _ _ h => h) (Or.inl ⟨by rfl, ?_⟩) ?_ ?_
  rotate_left
  · intro w'
    go_simp
    with_reducible rfl
  rotate_left
  · simp only [Act.put, List.setIfInBounds_toArray, List.set_cons_zero, List.set_cons_succ, i64_w, i32_w]
    rfl
  refine done_ (by kernel_rfl) ?_; obtain ⟨Ao85, co85, eo85⟩ := Kd.R_slice HO252.out; subst eo85
  go_upto_if 83 with (first | ((with_reducible refine gate_callee (f := 61) rfl ?_); refine goesM_ (some 82) rfl rfl Try.func61 (by kernel_rfl) rfl #[.slice Ao85 t250.length co85, .slice Ao38 t209.length co38] rfl ?_; (with_reducible refine (laws_eqIntS.calls kj71 _ _ t250 _ _ t209 t253 _ ?side1 ?side2 ?side3 ?side4 A77.out).mono ?_); (case side1 => exact ca_ (Kd.R_reads' HO252.out).2.2); (case side2 => exact (Kd.R_reads' HO252.out).2.1); (case side3 => exact ca_ (Kd.R_reads' HO_6.out).2.2); (case side4 => exact (Kd.R_reads' HO_6.out).2.1); rintro e w' ⟨rfl, ⟨nd, rfl⟩⟩; refine ⟨_, rfl, ?_⟩))
  (try simp only [Act.put, List.setIfInBounds_toArray, List.set_cons_zero, List.set_cons_succ])
  go_cut [] (fun wc => ∃ (kq : Nat), Aside0 (laws_FnExactFinger.j9 kq t240 t239 = some r) ∧ Aside0 (kq ≤ kj71) ∧ Aside0 (Kd.R (Kd.int .i64) 3 wc w.heap.size (fun _ => True) (.slice Ao37 t240.length co37) t240) ∧ Aside0 (wc.heap[gb198]? = some (.cells #[.int .i64 a1_0, .int .i64 a1_1, (.slice A1_2 l1_2.length c1_2)] 81 (0, 0))) ∧ Aside0 (Below w.heap.size w wc))
  case first =>
    have H := HC78.out; clear HC78
    by_cases c86 : t253 = true
    · subst c86; rw [if_pos rfl] at H; have H' := ak H; clear H
      go_wp2
      go_meet
      case rel => exact ⟨_, H', ⟨by have := HJ3.out; have := HJ8.out; have := HJ19.out; have := HJ41.out; have := HJ48.out; have := HJ56.out; have := HJ64.out; have := HJ68.out; have := HJ71.out; first | omega | exact Nat.le_refl _⟩, ⟨by (try simp only [hl9_68]); (with_reducible repeat (first | apply Kd.R_alloc | apply Kd.R_drewN | apply Kd.R_drew)); exact Kd.R_mono HO_9.out (fun _ hk => trivial)⟩, ⟨by (try simp only [hl9_68]); exact bk_ BK198.out⟩, ⟨bs1_ HB.out GE198.out⟩⟩
    replace c86 := Bool.eq_false_iff.mpr c86; subst c86; rw [if_neg (show ¬ (false = true) by decide)] at H; obtain rfl := Option.some.inj H
    go_wp2
    go_ret
    exact fin_ (bs1_ HB.out GE198.out)
  clear HC78; (try clear p2); (try clear c8); (try clear c86); (try clear p2); obtain ⟨kq, HA, HJ77, HO_9, BK198, HB⟩ := hcut
  cases kq with
  | zero => exact absurd HA.out (by simp [laws_FnExactFinger.j9])
  | succ kj77 => ?_
  have H := HA.out; clear HA
  simp only [laws_FnExactFinger.j9] at H
  replace H := Option.bind_eq_some_iff.mp H; obtain ⟨t254, A870, H⟩ := H; have A87 := ak A870; clear A870
  by_cases c88 : t254 < 0
  · rw [if_pos c88] at H; have c88b0 := decide_eq_true c88; clear c88; obtain rfl := Option.some.inj H
    go_wp2_with (first | ((with_reducible refine gate_callee (f := 67) rfl ?_); refine goesM_ (some 86) rfl rfl Try.func67 (by kernel_rfl) rfl #[.slice Ao37 t240.length co37, .int .i64 1] rfl ?_; (with_reducible refine (laws_heldIntS.calls kj77 _ _ t240 1 t254 _ ?side1 ?side2 A87.out).mono ?_); (case side1 => exact ca_ (Kd.R_reads' HO_9.out).2.2); (case side2 => exact (Kd.R_reads' HO_9.out).2.1); rintro e w' ⟨rfl, ⟨nd, rfl⟩⟩; refine ⟨_, rfl, ?_⟩))
    go_ret
    exact fin_ (bs1_ HB.out GE198.out)
  rw [if_neg c88] at H; have c88b0 := decide_eq_false c88; clear c88
  by_cases c89 : t254 = t239
  · rw [if_pos c89] at H; have c89b0 : (t254 == t239) = true := beq_iff_eq.mpr c89; have c89b1 : (t254 != t239) = false := bne_eq_false_iff_eq.mpr c89; clear c89; obtain rfl := Option.some.inj H
    go_wp2_with (first | ((with_reducible refine gate_callee (f := 67) rfl ?_); refine goesM_ (some 86) rfl rfl Try.func67 (by kernel_rfl) rfl #[.slice Ao37 t240.length co37, .int .i64 1] rfl ?_; (with_reducible refine (laws_heldIntS.calls kj77 _ _ t240 1 t254 _ ?side1 ?side2 A87.out).mono ?_); (case side1 => exact ca_ (Kd.R_reads' HO_9.out).2.2); (case side2 => exact (Kd.R_reads' HO_9.out).2.1); rintro e w' ⟨rfl, ⟨nd, rfl⟩⟩; refine ⟨_, rfl, ?_⟩))
    go_ret
    exact fin_ (bs1_ HB.out GE198.out)
  rw [if_neg c89] at H; have c89b0 : (t254 == t239) = false := beq_eq_false_iff_ne.mpr c89; have c89b1 : (t254 != t239) = true := bne_iff_ne.mpr c89; obtain rfl := Option.some.inj H
  go_wp2_with (first | ((with_reducible refine gate_callee (f := 67) rfl ?_); refine goesM_ (some 86) rfl rfl Try.func67 (by kernel_rfl) rfl #[.slice Ao37 t240.length co37, .int .i64 1] rfl ?_; (with_reducible refine (laws_heldIntS.calls kj77 _ _ t240 1 t254 _ ?side1 ?side2 A87.out).mono ?_); (case side1 => exact ca_ (Kd.R_reads' HO_9.out).2.2); (case side2 => exact (Kd.R_reads' HO_9.out).2.1); rintro e w' ⟨rfl, ⟨nd, rfl⟩⟩; refine ⟨_, rfl, ?_⟩))
  go_ret
  exact fin_ (bs1_ HB.out GE198.out)

end Go.Proofs.Ytlgoindmpejgcaa.XFinger
