/- A small evaluator over the program's own code, and why it tells the truth (part 3). Written by this claim's session. -/
import Derived.Test.YtejfjfhopapaaaaPEb
set_option linter.unusedSimpArgs false
namespace Go.Proofs.Ytejfjfhopapaaaa.PE
noncomputable section
set_option linter.unusedVariables false
open Go Go.RowKit
variable {T : Tbl} {R : Type}
@[reducible] def mkT (ST : Nat → Type) (zero : (s : Nat) → ST s) (cells : (s : Nat) → ST s → List (Dyn ST)) (mkS : (s : Nat) → List (Dyn ST) → Option (ST s)) (sz : Nat → Nat) (etys : List (Nat × E)) (lays : List (Nat × Nat)) (flds : List (Nat × List Nat)) (plcs : List (Nat × List (Nat × Nat))) (eqts : List (Nat × List E)) (arrs : List Nat) (bd : Nat) (str : E → Bool) : Tbl where
  ST := ST
  zero := zero
  cells := cells
  mkS := mkS
  sz := sz
  ety := fun t => lookO etys t
  lay := fun t => match lookO lays t with | some n => n | none => 0
  fld := fun t f => match lookO flds t with | some l => l[f]? | none => none
  bnd := fun _ => bd
  plc := fun t i => match lookO plcs t with | some l => l[i]? | none => none
  eqs := fun t => lookO eqts t
  arr := fun t => memN t arrs
  str := str
def zeroB : List (Dyn T.ST) → List Value → Bool
  | [], [] => true
  | .int k n :: l, .int k' n' :: vs => decide (k = k') && (decide (n = n') && zeroB l vs)
  | .bool b :: l, .bool b' :: vs => (b == b') && zeroB l vs
  | .str s :: l, .string s' :: vs => s.data.toList.isEmpty && (s'.data.toList.isEmpty && zeroB l vs)
  | .lst _ xs :: l, .slice _ 0 0 :: vs => xs.isEmpty && zeroB l vs
  | _, _ => false
theorem zeroB_ok : ∀ {l : List (Dyn T.ST)} {vs : List Value}, zeroB l vs = true → ∀ (j : Nat) y, l[j]? = some y → ∃ cv, vs[j]? = some cv ∧ (∀ w S, Rep T w S y cv) ∧ ∀ E : Env T, RepF E (zeroF y) cv := by
  intro l
  induction l with
  | nil => intro vs _ j y h; simp at h
  | cons x l ih =>
    intro vs h j y hy
    cases vs with
    | nil => cases x <;> simp [zeroB] at h
    | cons v vs =>
      have two : ((∀ w S, Rep T w S x v) ∧ ∀ E : Env T, RepF E (zeroF x) v) ∧ zeroB l vs = true := by
        unfold zeroB at h
        split at h
        · rename_i h1 h2; cases h1
        · rename_i k n l' k' n' vs' h1 h2
          obtain ⟨rfl, rfl⟩ := List.cons.inj h1
          obtain ⟨rfl, rfl⟩ := List.cons.inj h2
          simp only [Bool.and_eq_true, decide_eq_true_eq] at h
          obtain ⟨rfl, rfl, h⟩ := h
          exact ⟨⟨fun w S => rep_int.2 rfl, fun E => by rw [zeroF, RepF]; exact rep_int.2 rfl⟩, h⟩
        · rename_i b l' b' vs' h1 h2
          obtain ⟨rfl, rfl⟩ := List.cons.inj h1
          obtain ⟨rfl, rfl⟩ := List.cons.inj h2
          simp only [Bool.and_eq_true, beq_iff_eq] at h
          obtain ⟨rfl, h⟩ := h
          exact ⟨⟨fun w S => rep_bool.2 rfl, fun E => by rw [zeroF, RepF]; exact rep_bool.2 rfl⟩, h⟩
        · rename_i s l' s' vs' h1 h2
          obtain ⟨rfl, rfl⟩ := List.cons.inj h1
          obtain ⟨rfl, rfl⟩ := List.cons.inj h2
          simp only [Bool.and_eq_true, List.isEmpty_iff] at h
          obtain ⟨h3, h4, h⟩ := h
          have e1 : s.data = #[] := Array.toList_eq_nil_iff.1 h3
          have e2 : s'.data = #[] := Array.toList_eq_nil_iff.1 h4
          obtain rfl : s' = s := ByteArray.ext (by rw [e1, e2])
          exact ⟨⟨fun w S => rep_str.2 rfl, fun E => by rw [zeroF, RepF]; exact rep_str.2 rfl⟩, h⟩
        · rename_i e xs l' A vs' h1 h2
          obtain ⟨rfl, rfl⟩ := List.cons.inj h1
          obtain ⟨rfl, rfl⟩ := List.cons.inj h2
          simp only [Bool.and_eq_true, List.isEmpty_iff] at h
          obtain ⟨rfl, h⟩ := h
          exact ⟨⟨fun w S => rep_lst_mk (Nat.le_refl _) (fun _ h => absurd rfl h) (fun h => absurd rfl h), fun E => by rw [zeroF, RepF]; exact ⟨_, rfl⟩⟩, h⟩
        · cases h
      cases j with
      | zero => simp at hy; subst hy; exact ⟨v, rfl, two.1.1, two.1.2⟩
      | succ j => exact ih two.2 j y (by simpa using hy)
def descB (T : Tbl) : E → TypeDesc → Bool
  | .int k, .int k' => decide (k' = k)
  | .bool, .bool => true
  | .str, .string => true
  | .lst e, .slice t => match T.ety t with | some e' => (match E.dec e' e with | .isTrue _ => true | .isFalse _ => false) | none => false
  | .st _, .struct _ => true
  | .st _, .array _ _ => true
  | _, _ => false
theorem descB_ok {e : Ty} {d : TypeDesc} (h : descB T e d = true) : descOk T e d := by
  unfold descB at h
  split at h
  · simp only [decide_eq_true_eq] at h; subst h; rfl
  · rfl
  · rfl
  · rename_i e t
    split at h
    · rename_i e' he
      split at h
      · rename_i hh _; subst hh; exact ⟨t, rfl, he⟩
      · cases h
    · cases h
  · exact .inl ⟨_, rfl⟩
  · exact .inr ⟨_, _, rfl⟩
  · cases h
def tyB (P : Program) (T : Tbl) (t : TypeId) (e : E) : Bool :=
  (match P.info? t with
    | some i => Nat.beq i.size (szE T e) && (match i.zero with | some z => Nat.beq z.cells.size (szE T e) && zeroB (cellsE T e (dft T e)) z.cells.toList | none => false) && Nat.ble (T.bnd e * i.bytes) 140737488355328 && Nat.ble 1 i.bytes && Nat.ble 1 (szE T e)
    | none => false) &&
  (match P.underlying t with | some d => descB T e d | none => false)
theorem ble_ok {a b : Nat} (h : Nat.ble a b = true) : a ≤ b := Nat.le_of_ble_eq_true h
theorem tyB_ok {P : Program} {t : TypeId} {e : Ty} (h : tyB P T t e = true) : TyOk P T t e := by
  unfold tyB at h
  rw [Bool.and_eq_true] at h
  obtain ⟨h1, h2⟩ := h
  split at h1
  · rename_i i hi
    simp only [Bool.and_eq_true] at h1
    obtain ⟨⟨⟨⟨a1, a2⟩, a3⟩, a4⟩, a5⟩ := h1
    split at a2
    · rename_i z hz
      rw [Bool.and_eq_true] at a2
      split at h2
      · rename_i d hd
        refine ⟨⟨i, z, hi, beq_true a1, hz, beq_true a2.1, fun j y hy => ?_, ble_ok a3, ble_ok a4⟩, ⟨d, hd, descB_ok h2⟩, ble_ok a5⟩
        obtain ⟨cv, k1, k2, k3⟩ := zeroB_ok a2.2 j y hy
        exact ⟨cv, by rw [← Array.getElem?_toList]; exact k1, k2, k3⟩
      · cases h2
    · cases a2
  · cases h1
def layB (P : Program) (t n : Nat) : Bool :=
  match P.underlying t, P.info? t with
  | some d, some i => match n with
    | 0 => true
    | 1 => !(match d with | .struct _ | .array _ _ => true | _ => false) && Nat.beq i.size 1
    | m + 2 => (match d with | .struct _ | .array _ _ => true | _ => false) && Nat.beq i.size m
  | _, _ => false
def fldB (P : Program) (t : Nat) (l : List Nat) : Bool :=
  match P.underlying t with
  | some (.struct fs) => (l.zipIdx).all fun p => match fs[p.2]? with
    | some fd => Nat.beq fd.offset p.1 && (match P.info? fd.type with | some i => Nat.ble 1 i.size | none => false)
    | none => false
  | _ => false
def plcB (P : Program) (t : Nat) (l : List (Nat × Nat)) : Bool :=
  match P.underlying t with
  | some (.struct fs) => (fs.toList.all fun f => (P.info? f.type).isSome) && (l.zipIdx).all fun p => match fs[p.2]? with
    | some fd => Nat.beq fd.offset p.1.1 && (match P.info? fd.type with | some i => Nat.beq i.size p.1.2 | none => false)
    | none => false
  | some (.array k e) => match P.info? e with
    | some i => Nat.ble l.length k && (l.zipIdx).all fun p => Nat.beq i.size p.1.2 && Nat.beq p.1.1 (p.2 * p.1.2)
    | none => false
  | _ => false
def eqdB : E → TypeDesc → Bool
  | .int _, .int _ => true
  | .bool, .bool => true
  | .str, .string => true
  | _, _ => false
theorem eqdB_ok {e : Ty} {d : TypeDesc} (h : eqdB e d = true) : eqDesc e d := by
  unfold eqdB at h
  split at h
  · exact ⟨_, rfl⟩
  · rfl
  · rfl
  · cases h
def eqsB (P : Program) (t : Nat) (es : List E) : Bool :=
  match P.underlying t with
  | some (.struct fs) => !P.stoodInHeld t && (!P.eqGuardType P.depth t && (Nat.beq fs.size es.length && ((fs.toList.zip es).zipIdx).all fun p => p.1.1.name != "_" && (Nat.beq p.1.1.offset p.2 && (match P.underlying p.1.1.type with | some d => eqdB p.1.2 d | none => false))))
  | _ => false
theorem eqsB_ok {P : Program} {t : Nat} {es : List Ty} (h : eqsB P t es = true) : ∃ fs, P.underlying t = some (.struct fs) ∧ P.stoodInHeld t = false ∧ P.eqGuardType P.depth t = false ∧ fs.size = es.length ∧ ∀ (j : Nat) (f : Field) (e : E), fs[j]? = some f → es[j]? = some e → f.name ≠ "_" ∧ f.offset = j ∧ ∃ d, P.underlying f.type = some d ∧ eqDesc e d := by
  unfold eqsB at h
  split at h
  · rename_i fs hu
    simp only [Bool.and_eq_true, Bool.not_eq_true', List.all_eq_true] at h
    refine ⟨fs, hu, h.1, h.2.1, beq_true h.2.2.1, fun j f e hf he => ?_⟩
    have hm : ((f, e), j) ∈ (fs.toList.zip es).zipIdx := List.mem_zipIdx_iff_getElem?.2 (by
      rw [List.getElem?_zip_eq_some]
      exact ⟨by rw [Array.getElem?_toList]; exact hf, he⟩)
    have := h.2.2.2 _ hm
    simp only [bne_iff_ne, ne_eq] at this
    refine ⟨this.1, beq_true this.2.1, ?_⟩
    have h9 := this.2.2
    split at h9
    · rename_i d hd; exact ⟨d, hd, eqdB_ok h9⟩
    · cases h9
  · cases h
theorem tbl_ok {P : Program} {ST : Nat → Type} {zero : (s : Nat) → ST s} {cells : (s : Nat) → ST s → List (Dyn ST)} {mkS : (s : Nat) → List (Dyn ST) → Option (ST s)} {sz : Nat → Nat} {etys : List (Nat × Ty)} {lays : List (Nat × Nat)} {flds : List (Nat × List Nat)} {plcs : List (Nat × List (Nat × Nat))} {eqts : List (Nat × List Ty)} {arrs : List Nat} {bd : Nat} {str : Ty → Bool}
    (h1 : etys.all (fun p => tyB P (mkT ST zero cells mkS sz etys lays flds plcs eqts arrs bd str) p.1 p.2) = true) (h2 : lays.all (fun p => layB P p.1 p.2) = true) (h3 : flds.all (fun p => fldB P p.1 p.2) = true) (h4 : plcs.all (fun p => plcB P p.1 p.2) = true) (h5 : eqts.all (fun p => eqsB P p.1 p.2) = true) (h6 : arrs.all (fun t => match P.underlying t with | some (.array _ _) => true | _ => false) = true)
    (hl : ∀ s x, (cells s x).length = sz s) (hk : ∀ s l x, mkS s l = some x → DLes (T := mkT ST zero cells mkS sz etys lays flds plcs eqts arrs bd str) l (cells s x))
    (hki : ∀ s x, SK (T := mkT ST zero cells mkS sz etys lays flds plcs eqts arrs bd str) (cells s x) (cells s (zero s))) (hmx : ∀ s l, SK (T := mkT ST zero cells mkS sz etys lays flds plcs eqts arrs bd str) l (cells s (zero s)) → ∃ y, cells s y = l) : TblOk P (mkT ST zero cells mkS sz etys lays flds plcs eqts arrs bd str) := by
  rw [List.all_eq_true] at h1 h2 h3 h4 h5 h6
  refine ⟨fun t e h => tyB_ok (h1 _ (lookO_mem h)), fun t h => ?_, fun t n h => ?_, fun t f o h => ?_, fun t i o n h => ?_, fun t es h => eqsB_ok (h5 _ (lookO_mem h)), fun t h => ?_, hl, hki, hmx, hk⟩
  · have h : (match lookO lays t with | some n => n | none => 0) = 1 := h
    split at h
    · rename_i n hn
      subst h
      have := h2 _ (lookO_mem hn)
      unfold layB at this
      split at this
      · rename_i d i hd hi
        simp only [Bool.and_eq_true, Bool.not_eq_true'] at this
        exact ⟨d, hd, this.1, i, hi, beq_true this.2⟩
      · cases this
    · cases h
  · have h : (match lookO lays t with | some n => n | none => 0) = n + 2 := h
    split at h
    · rename_i n' hn
      subst h
      have := h2 _ (lookO_mem hn)
      unfold layB at this
      split at this
      · rename_i d i hd hi
        simp only [Bool.and_eq_true] at this
        exact ⟨d, hd, this.1, i, hi, beq_true this.2⟩
      · cases this
    · omega
  · have h : (match lookO flds t with | some l => l[f]? | none => none) = some o := h
    split at h
    · rename_i l hlk
      have := h3 _ (lookO_mem hlk)
      unfold fldB at this
      split at this
      · rename_i fs hu
        rw [List.all_eq_true] at this
        have hm : (o, f) ∈ l.zipIdx := List.mem_zipIdx_iff_getElem?.2 h
        have := this _ hm
        simp only at this
        split at this
        · rename_i fd hfd
          rw [Bool.and_eq_true] at this
          split at this
          · rename_i i hi
            have h4 := ble_ok this.2
            exact ⟨fs, fd, i, hu, hfd, beq_true this.1, hi, by omega⟩
          · exact absurd this.2 (by simp)
        · cases this
      · cases this
    · cases h
  · have h : (match lookO plcs t with | some l => l[i]? | none => none) = some (o, n) := h
    split at h
    · rename_i l hlk
      have := h4 _ (lookO_mem hlk)
      unfold plcB at this
      have hm : ((o, n), i) ∈ l.zipIdx := List.mem_zipIdx_iff_getElem?.2 h
      split at this
      · rename_i fs hu
        rw [Bool.and_eq_true, List.all_eq_true, List.all_eq_true] at this
        left
        have h6 := this.2 _ hm
        simp only at h6
        split at h6
        · rename_i fd hfd
          rw [Bool.and_eq_true] at h6
          split at h6
          · rename_i inf hi
            exact ⟨fs, fd, inf, hu, hfd, beq_true h6.1, hi, beq_true h6.2, fun f hf => Option.isSome_iff_exists.1 (this.1 f hf)⟩
          · exact absurd h6.2 (by simp)
        · cases h6
      · rename_i k e hu
        split at this
        · rename_i inf hi
          rw [Bool.and_eq_true, List.all_eq_true] at this
          have h6 := this.2 _ hm
          simp only [Bool.and_eq_true] at h6
          have h7 : l.length ≤ k := Nat.le_of_ble_eq_true this.1
          have h8 : i < l.length := by
            rcases Nat.lt_or_ge i l.length with h8 | h8
            · exact h8
            · rw [List.getElem?_eq_none h8] at h; cases h
          exact .inr ⟨k, e, inf, hu, hi, beq_true h6.1, beq_true h6.2, by omega⟩
        · cases this
      · cases this
    · cases h
  · have := h6 t (memN_ok h)
    split at this
    · rename_i k e hu; exact ⟨k, e, hu⟩
    · cases this
theorem SK.nil : SK (T := T) [] [] := ⟨rfl, fun i d d' h => by simp at h⟩
theorem SK.cons {a b : Dyn T.ST} {l l' : List (Dyn T.ST)} (h : sk a b) (k : SK l l') : SK (a :: l) (b :: l') := by
  refine ⟨by rw [List.length_cons, List.length_cons, k.1], fun i d d' h1 h2 => ?_⟩
  cases i with
  | zero => simp at h1 h2; subst h1; subst h2; exact h
  | succ i => exact k.2 i d d' (by simpa using h1) (by simpa using h2)
theorem SK.inv0 {l : List (Dyn T.ST)} (h : SK l []) : l = [] := List.length_eq_zero_iff.1 h.1
theorem SK.inv {l : List (Dyn T.ST)} {b : Dyn T.ST} {r : List (Dyn T.ST)} (h : SK l (b :: r)) : ∃ a l', l = a :: l' ∧ sk a b ∧ SK l' r := by
  cases l with
  | nil => exact absurd h.1 (by simp)
  | cons a l' => exact ⟨a, l', rfl, h.2 0 a b rfl rfl, by simpa using h.1, fun i d d' h1 h2 => h.2 (i + 1) d d' (by simpa using h1) (by simpa using h2)⟩
theorem SK.int {l : List (Dyn T.ST)} {k : IntKind} {n : Int} {r : List (Dyn T.ST)} (h : SK l (.int k n :: r)) : ∃ m l', l = .int k m :: l' ∧ SK l' r := by
  obtain ⟨a, l', rfl, h1, h2⟩ := h.inv
  cases a <;> first | exact h1.elim | (obtain rfl := (h1 : _ = k); exact ⟨_, _, rfl, h2⟩)
theorem SK.bool {l : List (Dyn T.ST)} {n : Bool} {r : List (Dyn T.ST)} (h : SK l (.bool n :: r)) : ∃ m l', l = .bool m :: l' ∧ SK l' r := by
  obtain ⟨a, l', rfl, h1, h2⟩ := h.inv
  cases a <;> first | exact h1.elim | exact ⟨_, _, rfl, h2⟩
theorem SK.str {l : List (Dyn T.ST)} {n : ByteArray} {r : List (Dyn T.ST)} (h : SK l (.str n :: r)) : ∃ m l', l = .str m :: l' ∧ SK l' r := by
  obtain ⟨a, l', rfl, h1, h2⟩ := h.inv
  cases a <;> first | exact h1.elim | exact ⟨_, _, rfl, h2⟩
theorem SK.lst {l : List (Dyn T.ST)} {e : Ty} {n : List (Den T.ST e)} {r : List (Dyn T.ST)} (h : SK l (.lst e n :: r)) : ∃ m l', l = .lst e m :: l' ∧ SK l' r := by
  obtain ⟨a, l', rfl, h1, h2⟩ := h.inv
  cases a with
  | lst e' xs =>
    clear h
    have h3 : e' = e := h1
    subst h3
    exact ⟨_, _, rfl, h2⟩
  | _ => exact h1.elim
theorem DLes.nil : DLes (T := T) [] [] := ⟨rfl, fun i d d' h => by simp at h⟩
theorem DLes.cons {a b : Dyn T.ST} {l l' : List (Dyn T.ST)} (h : DLe a b) (k : DLes l l') : DLes (a :: l) (b :: l') := by
  refine ⟨by rw [List.length_cons, List.length_cons, k.1], fun i d d' h1 h2 => ?_⟩
  cases i with
  | zero => simp at h1 h2; subst h1; subst h2; exact h
  | succ i => exact k.2 i d d' (by simpa using h1) (by simpa using h2)
end
end Go.Proofs.Ytejfjfhopapaaaa.PE
namespace Go.Proofs.Ytejfjfhopapaaaa.PE
noncomputable section
set_option linter.unusedVariables false
open Go Go.RowKit
variable {T : Tbl} {R : Type}
theorem enters_of {P : Program} {n : FuncId} {fn : Func} {body : Code} (hfn : P.funcs[n]? = some fn) (hb : fn.body = some body) (hn : (fn.name == "runtime.NumGoroutine") = false) : Enters P n := by
  intro args w
  unfold callFunc
  rw [Sem.run_bind, show program.run P w = .ok P w from rfl]
  simp only [Result.andThen]
  rw [hfn]
  simp only [hn, hb]
  rfl
def EachU {α : Type _} (P : α → Prop) : List α → Prop
  | [] => True
  | a :: l => P a ∧ EachU P l
theorem EachU.all {α : Type _} {P : α → Prop} : ∀ {l : List α}, EachU P l → ∀ a ∈ l, P a := by
  intro l
  induction l with
  | nil => intro _ a h; cases h
  | cons x l ih =>
    intro h a ha
    rcases List.mem_cons.1 ha with rfl | ha
    · exact h.1
    · exact ih h.2 a ha
end
end Go.Proofs.Ytejfjfhopapaaaa.PE
namespace Go.Proofs.Ytejfjfhopapaaaa.PE
noncomputable section
set_option linter.unusedVariables false
open Go Go.RowKit
variable {T : Tbl} {R : Type}
def resR (h : Nat → Slot T) (f : Nat → FV T) : List ResultVar → Option (List (FV T))
  | [] => some []
  | x :: r => match resV h f x, resR h f r with | some v, some l => some (v :: l) | _, _ => none
def resO (s : St T) (rts : List ResultVar) : Option (FV T) := match resR s.h s.f rts with | some [v] => some v | some l => some (.tup l) | none => none
/-- What a function with slots handed in ends with. -/
def finC (c : Cut) (rts : List ResultVar) (s : St T) : Option (TupT T.ST c.es) := match cutR c s with
  | some y => match resO (canonC (T := T) c y) rts with | some _ => some y | none => none
  | none => none
/-- A contract over slots: what is handed in, what is behind it. -/
structure Ent2 (T : Tbl) where
  n : FuncId
  na : Nat
  pin : Cut
  pout : Cut
  rts : List ResultVar
  F : TupT T.ST pin.es → Option (TupT T.ST pout.es)
def Ent2Ok (P : Program) (T : Tbl) (e : Ent2 T) : Prop := Enters P e.n ∧ ∀ x y, e.F x = some y → ∀ (B : Base) (E : Env T) (cargs : List Value), InvE B E → E.H = (canonC e.pin x).h → (∀ t, RepF E ((canonC e.pin x).f t) (cargs.toArray.getD t undef)) → cargs.length = e.na →
  Calls P e.n cargs.toArray E.w (fun en w' => ∃ rv E' v, resO (canonC e.pout y) e.rts = some rv ∧ en = .returned v ∧ E'.w = w' ∧ InvE B E' ∧ E'.H = (canonC e.pout y).h ∧ RepF E' rv v)
def bindA (args : List (FV T)) : List (Nat × Pt) → List (Nat × Nat) → List (Nat × Nat)
  | [], m => m
  | (t, p) :: l, m => match args[t]? with | some v => bindA args l (bindP p v m) | none => bindA args l m
mutual
def lvs (m : List (Nat × Nat)) : FV T → List (FV T)
  | .own j g => match invM m j with | some _ => [] | none => [.own j g]
  | .agg cs => lvsL m cs
  | .tup cs => lvsL m cs
  | .clo _ cs => lvsL m cs
  | .d _ => []
  | .lit _ => []
  | .prp _ _ => []
  | .ptr _ _ _ => []
  | .oel _ _ _ _ => []
  | .elp _ _ _ _ => []
  | .nil => []
  | .non => []
def lvsL (m : List (Nat × Nat)) : List (FV T) → List (FV T)
  | [] => []
  | c :: cs => lvs m c ++ lvsL m cs
end
def boxCells (h : Nat → Slot T) (m : List (Nat × Nat)) : List (FV T) := m.flatMap fun p => match (h p.2).c with | .box cs => cs | _ => []
def callS (h : Nat → Slot T) (m : List (Nat × Nat)) (args : List (FV T)) : St T := ⟨fun t => match args[t]? with | some v => renF h m v | none => .non, renH h m⟩
def mapOf (e : Ent2 T) (args : List (FV T)) (h : Nat → Slot T) : List (Nat × Nat) := bindB h e.pin.bxs (bindA args e.pin.pts [])
def okIn (m : List (Nat × Nat)) : Bool := nodupN (m.map (·.1)) && (nodupN (m.map (·.2)) && m.all fun p => Nat.ble HB p.1)
/-- The caller's slots behind what is frozen for the call. -/
def h1Of (m : List (Nat × Nat)) (args : List (FV T)) (h : Nat → Slot T) : Nat → Slot T := frzFs h (lvsL m (args ++ boxCells h m))
def in2 (e : Ent2 T) (args : List (FV T)) (h : Nat → Slot T) : Option (TupT T.ST e.pin.es) :=
  match Nat.beq args.length e.na && okIn (mapOf e args h) with
  | true => cutS e.pin (callS (h1Of (mapOf e args h) args h) (mapOf e args h) args)
  | false => none
def newId (d i : Nat) : Nat := (i + 1) * 65536 + d
def tgt (m : List (Nat × Nat)) (d i : Nat) : Nat := match lookO m i with | some j => j | none => newId d i
def invT (m : List (Nat × Nat)) (d : Nat) : List Nat → Nat → Option Nat
  | [], _ => none
  | i :: l, j => match Nat.beq j (tgt m d i) with | true => some i | false => invT m d l j
/-- Which making of a row it is that a call gives back. -/
def gN (h : Nat → Slot T) (m : List (Nat × Nat)) (d i : Nat) : Nat := match Nat.ble HR i with | true => (h (tgt m d i)).g | false => (h (tgt m d i)).g + 1
mutual
/-- A value of the callee's, as the caller has it. -/
def outF (h : Nat → Slot T) (m : List (Nat × Nat)) (d : Nat) (bx nb rw : List Nat) : FV T → FV T
  | .own i g => match Nat.beq g 1 && memN i rw with | true => .own (tgt m d i) (gN h m d i) | false => .non
  | .ptr i g off => match Nat.beq g 1 && memN i bx with | true => .ptr (tgt m d i) (h (tgt m d i)).g off | false => match Nat.beq g 1 && memN i nb with | true => .ptr (tgt m d i) ((h (tgt m d i)).g + 1) off | false => .non
  | .oel _ _ _ _ => .non
  | .agg cs => .agg (outFL h m d bx nb rw cs)
  | .tup cs => .tup (outFL h m d bx nb rw cs)
  | .clo f cs => .clo f (outFL h m d bx nb rw cs)
  | .d x => .d x
  | .lit b => .lit b
  | .prp p i => .prp p i
  | .elp e xs i off => .elp e xs i off
  | .nil => .nil
  | .non => .non
def outFL (h : Nat → Slot T) (m : List (Nat × Nat)) (d : Nat) (bx nb rw : List Nat) : List (FV T) → List (FV T)
  | [] => []
  | c :: cs => outF h m d bx nb rw c :: outFL h m d bx nb rw cs
end
def outSl (h : Nat → Slot T) (m : List (Nat × Nat)) (d : Nat) (bx nb rw : List Nat) (j i : Nat) : Cont T → Cont T → Slot T
  | .box _, .box cs => ⟨(h j).g, .box (outFL h m d bx nb rw cs)⟩
  | _, .row e xs => ⟨gN h m d i, .row e xs⟩
  | _, _ => ⟨(h j).g + 1, .none⟩
def outNew (h : Nat → Slot T) (m : List (Nat × Nat)) (d : Nat) (bx nb rw : List Nat) (j : Nat) : Cont T → Slot T
  | .box cs => ⟨(h j).g + 1, .box (outFL h m d bx nb rw cs)⟩
  | _ => ⟨(h j).g + 1, .none⟩
def outH (h : Nat → Slot T) (m : List (Nat × Nat)) (d : Nat) (bx nb rw : List Nat) (ho : Nat → Slot T) : Nat → Slot T := fun j => match invT m d (bx ++ (nb ++ rw)) j with
  | some i => match memN i nb with | true => outNew h m d bx nb rw j (ho i).c | false => outSl h m d bx nb rw j i (h j).c (ho i).c
  | none => match memN j (m.map (·.2)) with | true => ⟨(h j).g + 1, .none⟩ | false => h j
def isRow : Cont T → Bool | .row _ _ => true | _ => false
def sameRow : Cont T → Cont T → Bool | .row e _, .row e' _ => (match E.dec e e' with | .isTrue _ => true | .isFalse _ => false) | _, _ => false
/-- A row that a call gives back: where it lay, or in a slot below. -/
def rowIn (h : Nat → Slot T) (m : List (Nat × Nat)) (d i : Nat) (c : Cont T) : Bool := match Nat.ble HR i with
  | true => (match lookO m i with | some j => sameRow (h j).c c | none => false)
  | false => Nat.blt (tgt m d i) HR
def okOut (h : Nat → Slot T) (m : List (Nat × Nat)) (d : Nat) (bx nb rw : List Nat) (ho : Nat → Slot T) : Bool :=
  nodupN ((bx ++ (nb ++ rw)).map (tgt m d)) && ((rw.all fun i => isRow (ho i).c && (!memN i nb && rowIn h m d i (ho i).c)) && ((nb.all fun i => Nat.blt (tgt m d i) HB && (match (ho i).c with | .box cs => (outFL h m d bx nb rw cs).all cellOk | _ => false)) && bx.all fun i => match lookO m i with
    | some j => !memN i nb && (isBox (h j).c && (match (ho i).c with | .box cs => (outFL h m d bx nb rw cs).all cellOk | _ => false))
    | none => false))
/-- The handed boxes among what is told behind the call. -/
def bxOf (e : Ent2 T) (m : List (Nat × Nat)) : List Nat := (e.pout.bxs.map (·.1)).filter fun i => match lookO m i with | some _ => true | none => false
/-- The boxes that the call made. -/
def nbOf (e : Ent2 T) (m : List (Nat × Nat)) : List Nat := (e.pout.bxs.map (·.1)).filter fun i => match lookO m i with | some _ => false | none => true
def out2 (e : Ent2 T) (d : Nat) (args : List (FV T)) (h : Nat → Slot T) (y : TupT T.ST e.pout.es) (K : FV T → (Nat → Slot T) → Option R) : Option R :=
  match resO (canonC e.pout y) e.rts with
  | some rv => match okOut (h1Of (mapOf e args h) args h) (mapOf e args h) d (bxOf e (mapOf e args h)) (nbOf e (mapOf e args h)) (e.pout.rws.map (·.1)) (canonC e.pout y).h with
    | true => K (outF (h1Of (mapOf e args h) args h) (mapOf e args h) d (bxOf e (mapOf e args h)) (nbOf e (mapOf e args h)) (e.pout.rws.map (·.1)) rv)
        (outH (h1Of (mapOf e args h) args h) (mapOf e args h) d (bxOf e (mapOf e args h)) (nbOf e (mapOf e args h)) (e.pout.rws.map (·.1)) (canonC e.pout y).h)
    | false => none
  | none => none
def calL : List (Ent2 T) → FuncId → Nat → List (FV T) → (Nat → Slot T) → (FV T → (Nat → Slot T) → Option R) → Option R
  | [], _, _, _, _, _ => none
  | e :: l, n, d, args, h, K => match Nat.beq e.n n with
    | true => match in2 e args h with
      | some x => (e.F x).bind fun y => out2 e d args h y K
      | none => calL l n d args h K
    | false => calL l n d args h K
/-- A contract over slots of a call that comes to one of several results: what follows is told of each. -/
structure Ent3 (T : Tbl) where
  e : Ent2 T
  G : (R : Type) → TupT T.ST e.pin.es → (TupT T.ST e.pout.es → Option R) → Option R
def Ent3Ok (P : Program) (T : Tbl) (e : Ent3 T) : Prop := Enters P e.e.n ∧ ∀ (R : Type) x (K : TupT T.ST e.e.pout.es → Option R) r, e.G R x K = some r → ∀ (B : Base) (E : Env T) (cargs : List Value), InvE B E → E.H = (canonC e.e.pin x).h → (∀ t, RepF E ((canonC e.e.pin x).f t) (cargs.toArray.getD t undef)) → cargs.length = e.e.na →
  Calls P e.e.n cargs.toArray E.w (fun en w' => ∃ y, K y = some r ∧ ∃ rv E' v, resO (canonC e.e.pout y) e.e.rts = some rv ∧ en = .returned v ∧ E'.w = w' ∧ InvE B E' ∧ E'.H = (canonC e.e.pout y).h ∧ RepF E' rv v)
def calR : List (Ent3 T) → FuncId → Nat → List (FV T) → (Nat → Slot T) → (FV T → (Nat → Slot T) → Option R) → Option R
  | [], _, _, _, _, _ => none
  | e :: l, n, d, args, h, K => match Nat.beq e.e.n n with
    | true => match in2 e.e args h with
      | some x => e.G R x fun y => out2 e.e d args h y K
      | none => calR l n d args h K
    | false => calR l n d args h K
structure Ents (T : Tbl) where
  q : List (Ent T)
  l : List (Ent2 T)
  r : List (Ent3 T)
/-- Operations that come to one of several, and where they may stand. -/
structure Hvs (T : Tbl) where
  hv : (R : Type) → Nat → Oper → St T → Option ((St T → Option R) → Option R)
  site : Oper → Bool
  nar : Base → Prop
/-- A box that is written once, at its making: from then on it is read, by whoever. -/
def hvFz (T : Tbl) (fs : List Nat) (R : Type) (N : Nat) (o : Oper) (s : St T) : Option ((St T → Option R) → Option R) := match o.op, o.dst with
  | .store t (.tmp ta) xo, none => match memN ta fs with
    | true => match s.f ta, T.ety t with
      | .ptr d g 0, some e => match s.h d, cellsF s.h (ev s xo) with
        | ⟨g', .box cs⟩, some vs => match Nat.beq g g' && (!hasOwn [ev s xo] && (Nat.beq vs.length cs.length && (Nat.beq (T.lay t) (match ev s xo with | .agg _ => vs.length + 2 | _ => 1) && Nat.blt ta N))), mkE T e vs with
          | true, some y => some fun K => K ⟨upd s.f ta (.elp e [y] 0 0), upd s.h d ⟨g + 1, .none⟩⟩
          | _, _ => none
        | _, _ => none
      | _, _ => none
    | false => none
  | .box t xo, some d => match memN d fs with
    | true => match T.ety t, cellsF s.h (ev s xo) with
      | some e, some vs => match !hasOwn [ev s xo] && Nat.blt d N, mkE T e vs with
        | true, some y => some fun K => K ⟨upd s.f d (.elp e [y] 0 0), s.h⟩
        | _, _ => none
      | _, _ => none
    | false => none
  | _, _ => none
@[reducible] def hvsF (T : Tbl) (fs : List Nat) : Hvs T := ⟨hvFz T fs, fun _ => false, fun _ => True⟩
@[reducible] def noHv : Hvs T := ⟨fun _ _ _ _ => none, fun _ => false, fun _ => True⟩
def calH (H : Hvs T) (e : Ents T) : Cal T R := ⟨calQ e.q, fun n => memN n (e.l.map (·.n) ++ e.r.map (·.e.n)), fun n => memN n (e.r.map (·.e.n)), fun n d args h K => match memN n (e.r.map (·.e.n)) with
  | true => calR e.r n d args h K
  | false => calL e.l n d args h K, H.hv R, H.site, H.nar⟩
@[reducible] def calOf (e : Ents T) : Cal T R := calH noHv e
@[reducible] def calF (fs : List Nat) (e : Ents T) : Cal T R := calH (hvsF T fs) e
end
end Go.Proofs.Ytejfjfhopapaaaa.PE
namespace Go.Proofs.Ytejfjfhopapaaaa.PE
noncomputable section
set_option linter.unusedVariables false
open Go Go.RowKit
variable {T : Tbl} {R : Type}
theorem resR_ok {P : Program} (hT : TblOk P T) {B : Base} {E : Env T} (I : InvE B E) {f : Nat → FV T} {tmps : Array Value} (hf : ∀ t, RepF E (f t) (tmps.getD t undef)) : ∀ {l : List ResultVar} {vs : List (FV T)}, resR E.H f l = some vs →
    ∃ vals : List Value, (∀ g : ResultVar → Sem Value, (∀ t, g (.tmp t) = pure (tmps.getD t undef)) → (∀ a t, g (.cell a t) = (do loadVar t (← asAddr (tmps.getD a undef)))) → (l.mapM g).run P E.w = .ok vals E.w) ∧ RepL E vs vals := by
  intro l
  induction l with
  | nil => intro vs h; obtain rfl := Option.some.inj h; exact ⟨[], fun g _ _ => by simp, by rw [RepL]⟩
  | cons r l ih =>
    intro vs h
    unfold resR at h
    split at h
    · rename_i u l' hu hl
      obtain rfl := Option.some.inj h
      obtain ⟨vals, a1, a3⟩ := ih hl
      have one : ∃ cv, RepF E u cv ∧ ∀ g : ResultVar → Sem Value, (∀ t, g (.tmp t) = pure (tmps.getD t undef)) → (∀ a t, g (.cell a t) = (do loadVar t (← asAddr (tmps.getD a undef)))) → (g r).run P E.w = .ok cv E.w := by
        cases r with
        | tmp t =>
          obtain rfl := Option.some.inj hu
          exact ⟨_, hf t, fun g hg _ => by rw [hg]; rfl⟩
        | cell a t =>
          simp only [resV] at hu
          split at hu
          · rename_i cs off hat
            obtain ⟨b, p, ha, hc⟩ := at_ok I (Sub.refl _) (hf a) hat
            obtain ⟨cv, h3, h4⟩ := load_ok hT hu hc
            refine ⟨cv, h4, fun g _ hg => ?_⟩
            rw [hg, ha, Sem.run_bind]
            exact h3
          · cases hu
      obtain ⟨cv, c1, c2⟩ := one
      refine ⟨cv :: vals, fun g g1 g2 => ?_, by rw [RepL]; exact ⟨_, _, rfl, c1, a3⟩⟩
      rw [List.mapM_cons, Sem.run_bind, c2 g g1 g2]
      simp only [Result.andThen]
      rw [Sem.run_bind, a1 g g1 g2]
      rfl
    · cases h
/-- What a function with slots handed in leaves behind. -/
def Post2 (B : Base) (c : Cut) (rts : List ResultVar) (y : TupT T.ST c.es) (en : Ending) (w' : World) : Prop :=
  ∃ rv E' v, resO (canonC c y) rts = some rv ∧ en = .returned v ∧ E'.w = w' ∧ InvE B E' ∧ E'.H = (canonC (T := T) c y).h ∧ RepF E' rv v
theorem fin2_ok {P : Program} (hT : TblOk P T) {fn : Func} {c : Cut} {B : Base} {s : St T} {y : TupT T.ST c.es} (hs : finC c fn.results.toList s = some y) (E : Env T) (a : Act) (hr : Rel B E s.f a fn.ntmps) (hH : E.H = s.h) :
    ∃ v, (results fn a.tmps).run P E.w = .ok v E.w ∧ Post2 B c fn.results.toList y (.returned v) E.w := by
  unfold finC at hs
  split at hs
  · rename_i y' hy
    split at hs
    · rename_i rv hrv
      obtain rfl := Option.some.inj hs
      obtain ⟨E', w', r', H'⟩ := cutR_ok (P := P) hT hr hH hy
      have hres : ∀ vs : List Value, (∀ g : ResultVar → Sem Value, (∀ t, g (.tmp t) = pure (a.tmps.getD t undef)) → (∀ x t, g (.cell x t) = (do loadVar t (← asAddr (a.tmps.getD x undef)))) → (fn.results.toList.mapM g).run P E.w = .ok vs E.w) → (results fn a.tmps).run P E.w = .ok (if h : vs.toArray.size = 1 then vs.toArray[0] else .tuple vs.toArray) E.w := by
        intro vs h1
        unfold results
        rw [Sem.run_bind]
        rw [Array.mapM_eq_mapM_toList, Sem.run_map, h1 _ (fun _ => rfl) (fun _ _ => rfl)]
        rfl
      have hrv0 := hrv
      unfold resO at hrv
      split at hrv
      · rename_i v hl
        obtain rfl := Option.some.inj hrv
        rw [← H'] at hl
        obtain ⟨vals, x1, x3⟩ := resR_ok (P := P) hT r'.inv (tmps := a.tmps) r'.frame hl
        rw [w'] at x1
        rw [RepL] at x3
        obtain ⟨cv, r2, rfl, hv2, hv3⟩ := x3
        rw [RepL] at hv3
        subst hv3
        refine ⟨cv, ?_, _, E', cv, hrv0, rfl, w', r'.inv, H', hv2⟩
        rw [hres [cv] x1]
        rfl
      · rename_i l hne hl
        obtain rfl := Option.some.inj hrv
        rw [← H'] at hl
        obtain ⟨vals, x1, x3⟩ := resR_ok (P := P) hT r'.inv (tmps := a.tmps) r'.frame hl
        rw [w'] at x1
        have hlen := x3.length
        refine ⟨.tuple vals.toArray, ?_, _, E', _, hrv0, rfl, w', r'.inv, H', by rw [RepF]; exact ⟨_, rfl, x3⟩⟩
        rw [hres _ x1, dif_neg]
        intro h1
        rw [List.size_toArray, hlen] at h1
        cases l with
        | nil => simp at h1
        | cons v l =>
          cases l with
          | nil => exact hne v rfl
          | cons _ _ => simp at h1
      · cases hrv
    · cases hs
  · cases hs
theorem getD_pad (cargs : List Value) (m t : Nat) : (cargs.toArray ++ Array.replicate m undef).getD t undef = cargs.toArray.getD t undef := by
  rw [Array.getD_eq_getD_getElem?, Array.getD_eq_getD_getElem?]
  by_cases h : t < cargs.toArray.size
  · rw [Array.getElem?_append_left h]
  · rw [Array.getElem?_append_right (by omega), Array.getElem?_eq_none (xs := cargs.toArray) (by omega), Array.getElem?_replicate]
    split <;> rfl
/-- What follows is told behind a function's end. -/
def finR (c : Cut) (rts : List ResultVar) (K : TupT T.ST c.es → Option R) (s : St T) : Option R := match finC c rts s with | some y => K y | none => none
theorem fin3_ok {P : Program} (hT : TblOk P T) {fn : Func} {c : Cut} {B : Base} {s : St T} {K : TupT T.ST c.es → Option R} {r : R} (hs : finR c fn.results.toList K s = some r) (E : Env T) (a : Act) (hr : Rel B E s.f a fn.ntmps) (hH : E.H = s.h) :
    ∃ v, (results fn a.tmps).run P E.w = .ok v E.w ∧ ∃ y, K y = some r ∧ Post2 B c fn.results.toList y (.returned v) E.w := by
  unfold finR at hs
  split at hs
  · rename_i y hy
    obtain ⟨v, h1, h2⟩ := fin2_ok hT hy E a hr hH
    exact ⟨v, h1, y, hs, h2⟩
  · cases hs
theorem ent3_core {P : Program} (hT : TblOk P T) (hm : P.follows .mixedOrders = true) {n : FuncId} {fn : Func} {body : Code} (hfn : P.funcs[n]? = some fn) (hb : fn.body = some body) {na : Nat} (hna : na ≤ fn.ntmps) {pin pout : Cut} {K : TupT T.ST pout.es → Option R}
    {cal : Nat → Cal T R} {us : List (CutU T R)} (h0 : ∀ u ∈ us, ∀ x, u.L 0 x = none) (hs : ∀ u ∈ us, ∀ k x, runU T (cal k) (jmps us k) (finR pout fn.results.toList K) fn (some u.id) (canonC u.c x) = u.L (k + 1) x)
    {k : Nat} (hc : ∀ j, j ≤ k → CalOk P T (cal j)) {x : TupT T.ST pin.es} {r : R} (h : runU T (cal k) (jmps us k) (finR pout fn.results.toList K) fn none (canonC pin x) = some r) (B : Base) (hn : ∀ j, (cal j).nar B) (E : Env T) (cargs : List Value) (I : InvE B E) (hH : E.H = (canonC pin x).h)
    (hf : ∀ t, RepF E ((canonC pin x).f t) (cargs.toArray.getD t undef)) (hl : cargs.length = na) : Calls P n cargs.toArray E.w (fun en w' => ∃ y, K y = some r ∧ Post2 B pout fn.results.toList y en w') := by
  refine calls_of_twp hfn hb ?_
  have hrel : Rel B E (canonC pin x).f { tmps := cargs.toArray ++ Array.replicate (fn.ntmps - cargs.toArray.size) undef, defers := [] } fn.ntmps :=
    ⟨I, by simp; omega, fun t => by show RepF E _ ((cargs.toArray ++ Array.replicate _ undef).getD t undef); rw [getD_pad]; exact hf t, rfl⟩
  have C : Ctx P T B n fn body (jmps us k) (finR pout fn.results.toList K) (fun r en w' => ∃ y, K y = some r ∧ Post2 B pout fn.results.toList y en w') :=
    ⟨hfn, hb, jumps_gen (Rp := fun r en w' => ∃ y, K y = some r ∧ Post2 B pout fn.results.toList y en w') hT hm hfn hb hn (fun s r hs E a hr hH => fin3_ok hT hs E a hr hH) h0 hs k (fun j hj => hc j (Nat.le_of_lt hj)), fun s r hs E a hr hH => fin3_ok hT hs E a hr hH⟩
  have hcode : codeAt body [] = body := by cases body <;> rfl
  have := unit_ok hT (hc k (Nat.le_refl _)) hm (hn k) C h [.code []] rfl E _ hrel hH
  rw [List.map_cons, List.map_nil, Itm.item, hcode] at this
  exact this
section
variable {P : Program} (hT : TblOk P T) (hm : P.follows .mixedOrders = true) {n : FuncId} {fn : Func} {body : Code} (hfn : P.funcs[n]? = some fn) (hb : fn.body = some body) (hen : Enters P n) {na : Nat} (hna : na ≤ fn.ntmps) {pin pout : Cut}
  {cal : Nat → Cal T (TupT T.ST pout.es)} (hn : ∀ j B, (cal j).nar B) {us : List (CutU T (TupT T.ST pout.es))} (h0 : ∀ u ∈ us, ∀ x, u.L 0 x = none) (hs : ∀ u ∈ us, ∀ k x, runU T (cal k) (jmps us k) (finC pout fn.results.toList) fn (some u.id) (canonC u.c x) = u.L (k + 1) x)
include hT hm hfn hb hen hna hn h0 hs
theorem ent2_core {k : Nat} (hc : ∀ j, j ≤ k → CalOk P T (cal j)) {x : TupT T.ST pin.es} {y : TupT T.ST pout.es} (h : runU T (cal k) (jmps us k) (finC pout fn.results.toList) fn none (canonC pin x) = some y) (B : Base) (E : Env T) (cargs : List Value) (I : InvE B E) (hH : E.H = (canonC pin x).h)
    (hf : ∀ t, RepF E ((canonC pin x).f t) (cargs.toArray.getD t undef)) (hl : cargs.length = na) : Calls P n cargs.toArray E.w (Post2 B pout fn.results.toList y) := by
  have _ := hen
  refine calls_of_twp hfn hb ?_
  have hrel : Rel B E (canonC pin x).f { tmps := cargs.toArray ++ Array.replicate (fn.ntmps - cargs.toArray.size) undef, defers := [] } fn.ntmps :=
    ⟨I, by simp; omega, fun t => by show RepF E _ ((cargs.toArray ++ Array.replicate _ undef).getD t undef); rw [getD_pad]; exact hf t, rfl⟩
  have C : Ctx P T B n fn body (jmps us k) (finC pout fn.results.toList) (fun y => Post2 B pout fn.results.toList y) :=
    ⟨hfn, hb, jumps_gen (Rp := fun y => Post2 B pout fn.results.toList y) hT hm hfn hb (fun j => hn j B) (fun s r hs E a hr hH => fin2_ok hT hs E a hr hH) h0 hs k (fun j hj => hc j (Nat.le_of_lt hj)), fun s r hs E a hr hH => fin2_ok hT hs E a hr hH⟩
  have hcode : codeAt body [] = body := by cases body <;> rfl
  have := unit_ok hT (hc k (Nat.le_refl _)) hm (hn k B) C h [.code []] rfl E _ hrel hH
  rw [List.map_cons, List.map_nil, Itm.item, hcode] at this
  exact this
/-- A function with slots handed in. -/
theorem fun_ent2 {F : Nat → TupT T.ST pin.es → Option (TupT T.ST pout.es)} (hr : ∀ k x, runU T (cal k) (jmps us k) (finC pout fn.results.toList) fn none (canonC pin x) = F k x) (hc : ∀ k, CalOk P T (cal k)) (k : Nat) : Ent2Ok P T ⟨n, na, pin, pout, fn.results.toList, F k⟩ :=
  ⟨hen, fun x y h B E cargs I hH hf hl => ent2_core hT hm hfn hb hen hna hn h0 hs (fun j _ => hc j) ((hr k x).trans h) B E cargs I hH hf hl⟩
theorem fun_rec2 {F : Nat → TupT T.ST pin.es → Option (TupT T.ST pout.es)} (hz : ∀ x, F 0 x = none) (hr : ∀ k x, runU T (cal k) (jmps us k) (finC pout fn.results.toList) fn none (canonC pin x) = F (k + 1) x) (k : Nat) (hc : ∀ j, j < k → CalOk P T (cal j)) : Ent2Ok P T ⟨n, na, pin, pout, fn.results.toList, F k⟩ := by
  refine ⟨hen, fun x y h B E cargs I hH hf hl => ?_⟩
  cases k with
  | zero => have h' : F 0 x = some y := h; rw [hz x] at h'; cases h'
  | succ k => exact ent2_core hT hm hfn hb hen hna hn h0 hs (fun j hj => hc j (by omega)) ((hr k x).trans h) B E cargs I hH hf hl
end
end
end Go.Proofs.Ytejfjfhopapaaaa.PE
namespace Go.Proofs.Ytejfjfhopapaaaa.PE
noncomputable section
set_option linter.unusedVariables false
open Go Go.RowKit
variable {T : Tbl} {R : Type}
/-- Where the call begins. -/
def callB (E : Env T) (m : List (Nat × Nat)) : Base := ⟨E.w, E.S, fun b => ∃ i j, lookO m i = some j ∧ Has E j ∧ E.η j = b, (callE E m).η, (callE E m).κ, fun i => match ((callE E m).H i).c with | .row _ xs => xs.length | _ => 0⟩
theorem call_inv {B : Base} {E : Env T} (I : InvE B E) {m : List (Nat × Nat)} (hm1 : (m.map (·.1)).Nodup) (hm2 : (m.map (·.2)).Nodup) : InvE (callB E m) (callE E m) := by
  have third : ∀ i, Has (callE E m) i → (callB E m).M0 ((callE E m).η i) := by
    intro i h
    obtain ⟨j, h1, h2⟩ := callE_has h
    exact ⟨i, j, h1, h2, (callE_some (E := E) h1).1.symm⟩
  refine ⟨fun i => ren_slot I hm1 i, fun i h => ?_, fun i i' h h' he => ?_, fun i e xs h hk => .inr (third i (.inr ⟨e, xs, h, hk⟩)), I.slt, fun _ _ h => h, fun _ _ h _ => .inl h, rfl, rfl, rfl, Nat.le_refl _, fun _ _ _ => rfl, fun _ _ _ _ => rfl, fun i e xs h => ?_⟩
  · obtain ⟨j, h1, h2⟩ := callE_has h
    have := I.own j h2
    rw [(callE_some (E := E) h1).1]
    exact ⟨this.1, this.2.1, .inr ⟨i, j, h1, h2, rfl⟩⟩
  · obtain ⟨j, h1, h2⟩ := callE_has h
    obtain ⟨j', h1', h2'⟩ := callE_has h'
    rw [(callE_some (E := E) h1).1, (callE_some (E := E) h1').1] at he
    have := I.inj j j' h2 h2' he
    subst this
    exact look_inj hm2 i i' j h1 h1'
  · exact ⟨ren_cap I h, fun _ => ⟨rfl, rfl, by show _ = (match ((callE E m).H i).c with | .row _ xs => xs.length | _ => 0); rw [h]⟩⟩
end
end Go.Proofs.Ytejfjfhopapaaaa.PE
namespace Go.Proofs.Ytejfjfhopapaaaa.PE
noncomputable section
set_option linter.unusedVariables false
open Go Go.RowKit
variable {T : Tbl} {R : Type}
theorem invT_ok {m : List (Nat × Nat)} {d : Nat} : ∀ {l : List Nat} {j i : Nat}, invT m d l j = some i → i ∈ l ∧ tgt m d i = j := by
  intro l
  induction l with
  | nil => intro j i h; cases h
  | cons a l ih =>
    intro j i h
    unfold invT at h
    split at h
    · rename_i hb
      obtain rfl := Option.some.inj h
      exact ⟨List.mem_cons_self, (beq_true hb).symm⟩
    · exact ⟨List.mem_cons_of_mem _ (ih h).1, (ih h).2⟩
theorem invT_none {m : List (Nat × Nat)} {d : Nat} : ∀ {l : List Nat} {j : Nat}, invT m d l j = none → ∀ i ∈ l, tgt m d i ≠ j := by
  intro l
  induction l with
  | nil => intro j _ i h; cases h
  | cons a l ih =>
    intro j h i hi
    unfold invT at h
    split at h
    · cases h
    · rename_i hb
      rcases List.mem_cons.1 hi with rfl | hi
      · rintro rfl
        rw [show Nat.beq (tgt m d i) (tgt m d i) = true from Nat.beq_refl _] at hb; cases hb
      · exact ih h i hi
theorem nodup_inj {f : Nat → Nat} : ∀ {l : List Nat}, (l.map f).Nodup → ∀ a ∈ l, ∀ b ∈ l, f a = f b → a = b := by
  intro l
  induction l with
  | nil => intro _ a h; cases h
  | cons x l ih =>
    intro hn a ha b hb he
    rw [List.map_cons, List.nodup_cons] at hn
    rcases List.mem_cons.1 ha with rfl | ha <;> rcases List.mem_cons.1 hb with rfl | hb
    · rfl
    · exact (hn.1 (List.mem_map.2 ⟨b, by assumption, he.symm⟩)).elim
    · exact (hn.1 (List.mem_map.2 ⟨a, by assumption, he⟩)).elim
    · exact ih hn.2 a ha b hb he
theorem invT_of {m : List (Nat × Nat)} {d : Nat} {l : List Nat} (hn : (l.map (tgt m d)).Nodup) {i : Nat} (hi : i ∈ l) : invT m d l (tgt m d i) = some i := by
  cases h : invT m d l (tgt m d i) with
  | none => exact absurd rfl (invT_none h i hi)
  | some i' => obtain ⟨h1, h2⟩ := invT_ok h; rw [nodup_inj hn i' h1 i hi h2]
def outE (E1 E3 : Env T) (m : List (Nat × Nat)) (d : Nat) (bx nb rw : List Nat) : Env T :=
  ⟨E3.w, E3.S, fun j => match invT m d (bx ++ (nb ++ rw)) j with | some i => E3.η i | none => E1.η j, fun j => match invT m d (bx ++ (nb ++ rw)) j with | some i => (match (E3.H i).c with | .box _ => E1.κ j | _ => E3.κ i) | none => E1.κ j, outH E1.H m d bx nb rw E3.H⟩
theorem outSl_row (h : Nat → Slot T) (m : List (Nat × Nat)) (d : Nat) (bx nb rw : List Nat) (j i : Nat) (c : Cont T) (e : Ty) (xs : List (Den T.ST e)) : outSl h m d bx nb rw j i c (.row e xs) = ⟨gN h m d i, .row e xs⟩ := by cases c <;> rfl
structure OutOk (B : Base) (E1 E3 : Env T) (m : List (Nat × Nat)) (d : Nat) (bx nb rw : List Nat) : Prop where
  i1 : InvE B E1
  i3 : InvE (callB E1 m) E3
  g3 : ∀ i, (E3.H i).g = 1
  n1 : (m.map (·.1)).Nodup
  ge : ∀ i j, lookO m i = some j → HB ≤ i
  nd : ((bx ++ (nb ++ rw)).map (tgt m d)).Nodup
  rows : ∀ i ∈ rw, memN i nb = false ∧ ∃ (e : Ty) (xs : List (Den T.ST e)), (E3.H i).c = .row e xs ∧ (HR ≤ i → ∃ j xs0, lookO m i = some j ∧ (E1.H j).c = .row e xs0) ∧ (¬ HR ≤ i → tgt m d i < HR)
  news : ∀ i ∈ nb, tgt m d i < HB ∧ ∃ cs, (E3.H i).c = .box cs ∧ (outFL E1.H m d bx nb rw cs).all cellOk = true
  boxs : ∀ i ∈ bx, memN i nb = false ∧ ∃ j cs0 cs, lookO m i = some j ∧ (E1.H j).c = .box cs0 ∧ (E3.H i).c = .box cs ∧ (outFL E1.H m d bx nb rw cs).all cellOk = true
section
variable {B : Base} {E1 E3 : Env T} {m : List (Nat × Nat)} {d : Nat} {bx nb rw : List Nat} (O : OutOk B E1 E3 m d bx nb rw)
include O
theorem out_row {i : Nat} (hi : i ∈ rw) : ∃ (e : Ty) (xs : List (Den T.ST e)), (E3.H i).c = .row e xs ∧ (outE E1 E3 m d bx nb rw).H (tgt m d i) = ⟨gN E1.H m d i, .row e xs⟩ ∧ (outE E1 E3 m d bx nb rw).η (tgt m d i) = E3.η i ∧ (outE E1 E3 m d bx nb rw).κ (tgt m d i) = E3.κ i ∧
    ((E3.η i = E1.η (tgt m d i) ∧ E3.κ i = E1.κ (tgt m d i) ∧ (∃ xs0, (E1.H (tgt m d i)).c = .row e xs0 ∧ xs.length = xs0.length) ∧ gN E1.H m d i = (E1.H (tgt m d i)).g) ∨ (tgt m d i < HR ∧ gN E1.H m d i = (E1.H (tgt m d i)).g + 1)) := by
  obtain ⟨hnn, e, xs, h, hin, hout⟩ := O.rows i hi
  have hv := invT_of O.nd (List.mem_append_right _ (List.mem_append_right _ hi))
  refine ⟨e, xs, h, ?_, ?_, ?_, ?_⟩
  · show outH E1.H m d bx nb rw E3.H (tgt m d i) = _
    unfold outH
    rw [hv]
    show (match memN i nb with | true => outNew E1.H m d bx nb rw _ (E3.H i).c | false => outSl E1.H m d bx nb rw _ i _ (E3.H i).c) = _
    rw [hnn]
    show outSl E1.H m d bx nb rw _ i _ (E3.H i).c = _
    rw [h, outSl_row]
  · show (match invT m d (bx ++ (nb ++ rw)) (tgt m d i) with | some i => E3.η i | none => _) = _; rw [hv]
  · show (match invT m d (bx ++ (nb ++ rw)) (tgt m d i) with | some i => (match (E3.H i).c with | .box _ => E1.κ _ | _ => E3.κ i) | none => _) = _
    rw [hv]
    show (match (E3.H i).c with | .box _ => E1.κ _ | _ => E3.κ i) = _
    rw [h]
  · by_cases hR : HR ≤ i
    · obtain ⟨j, xs0, h1, h2⟩ := hin hR
      have ht : tgt m d i = j := by unfold tgt; rw [h1]
      obtain ⟨c1, c2, c3⟩ := callE_some (E := E1) h1
      have hc := (O.i3.cap i e xs h).2 hR
      have hl : xs.length = xs0.length := by
        refine hc.2.2.trans ?_
        show (match ((callE E1 m).H i).c with | .row _ xs => xs.length | _ => 0) = _
        rw [c3, h2]; rfl
      rw [ht]
      refine .inl ⟨hc.1.trans c1, hc.2.1.trans c2, ⟨xs0, h2, hl⟩, ?_⟩
      unfold gN
      rw [Nat.ble_eq_true_of_le hR, ht]
    · refine .inr ⟨hout hR, ?_⟩
      unfold gN
      rw [show Nat.ble HR i = false from by rw [Bool.eq_false_iff]; exact fun h => hR (Nat.le_of_ble_eq_true h)]
theorem out_box {i : Nat} (hi : i ∈ bx) : ∃ cs0 cs, lookO m i = some (tgt m d i) ∧ HB ≤ i ∧ (E1.H (tgt m d i)).c = .box cs0 ∧ (E3.H i).c = .box cs ∧ (outFL E1.H m d bx nb rw cs).all cellOk = true ∧ (outE E1 E3 m d bx nb rw).H (tgt m d i) = ⟨(E1.H (tgt m d i)).g, .box (outFL E1.H m d bx nb rw cs)⟩ ∧
    (outE E1 E3 m d bx nb rw).η (tgt m d i) = E3.η i ∧ (outE E1 E3 m d bx nb rw).κ (tgt m d i) = E1.κ (tgt m d i) ∧ E3.η i = E1.η (tgt m d i) := by
  obtain ⟨hnn, j, cs0, cs, h1, h2, h3, h4⟩ := O.boxs i hi
  have ht : tgt m d i = j := by unfold tgt; rw [h1]
  have hv := invT_of O.nd (List.mem_append_left _ hi)
  rw [ht] at hv ⊢
  refine ⟨cs0, cs, h1, O.ge i j h1, h2, h3, h4, ?_, ?_, ?_, ?_⟩
  · show outH E1.H m d bx nb rw E3.H j = _
    unfold outH
    rw [hv]
    show (match memN i nb with | true => outNew E1.H m d bx nb rw _ (E3.H i).c | false => outSl E1.H m d bx nb rw _ i (E1.H j).c (E3.H i).c) = _
    rw [hnn]
    show outSl E1.H m d bx nb rw _ i (E1.H j).c (E3.H i).c = _
    rw [h2, h3]
    rfl
  · show (match invT m d (bx ++ (nb ++ rw)) j with | some i => E3.η i | none => _) = _; rw [hv]
  · show (match invT m d (bx ++ (nb ++ rw)) j with | some i => (match (E3.H i).c with | .box _ => E1.κ _ | _ => E3.κ i) | none => _) = _
    rw [hv]
    show (match (E3.H i).c with | .box _ => E1.κ _ | _ => E3.κ i) = _
    rw [h3]
  · rw [O.i3.fxd i cs (O.ge i j h1) h3]
    exact (callE_some (E := E1) h1).1
theorem out_new {i : Nat} (hi : i ∈ nb) : ∃ cs, tgt m d i < HB ∧ (E3.H i).c = .box cs ∧ (outFL E1.H m d bx nb rw cs).all cellOk = true ∧ (outE E1 E3 m d bx nb rw).H (tgt m d i) = ⟨(E1.H (tgt m d i)).g + 1, .box (outFL E1.H m d bx nb rw cs)⟩ ∧ (outE E1 E3 m d bx nb rw).η (tgt m d i) = E3.η i := by
  obtain ⟨h0, cs, h, h1⟩ := O.news i hi
  have hv := invT_of O.nd (List.mem_append_right _ (List.mem_append_left _ hi))
  refine ⟨cs, h0, h, h1, ?_, ?_⟩
  · show outH E1.H m d bx nb rw E3.H (tgt m d i) = _
    unfold outH
    rw [hv]
    show (match memN i nb with | true => outNew E1.H m d bx nb rw _ (E3.H i).c | false => outSl E1.H m d bx nb rw _ i _ (E3.H i).c) = _
    rw [memN_of hi]
    show outNew E1.H m d bx nb rw _ (E3.H i).c = _
    rw [h]
    rfl
  · show (match invT m d (bx ++ (nb ++ rw)) (tgt m d i) with | some i => E3.η i | none => _) = _; rw [hv]
theorem out_else {j : Nat} (h : invT m d (bx ++ (nb ++ rw)) j = none) : ((outE E1 E3 m d bx nb rw).H j = E1.H j ∧ j ∉ m.map (·.2) ∨ (outE E1 E3 m d bx nb rw).H j = ⟨(E1.H j).g + 1, .none⟩) ∧ (outE E1 E3 m d bx nb rw).η j = E1.η j ∧ (outE E1 E3 m d bx nb rw).κ j = E1.κ j := by
  have _ := O
  refine ⟨?_, ?_, ?_⟩
  · show (outH E1.H m d bx nb rw E3.H j = _ ∧ _) ∨ outH E1.H m d bx nb rw E3.H j = _
    unfold outH
    rw [h]
    show ((match memN j (m.map (·.2)) with | true => _ | false => _) = _ ∧ _) ∨ (match memN j (m.map (·.2)) with | true => _ | false => _) = _
    cases hj : memN j (m.map (·.2)) with
    | true => exact .inr rfl
    | false => exact .inl ⟨rfl, fun hm => by rw [memN_of hm] at hj; cases hj⟩
  · show (match invT m d (bx ++ (nb ++ rw)) j with | some i => E3.η i | none => E1.η j) = _; rw [h]
  · show (match invT m d (bx ++ (nb ++ rw)) j with | some i => (match (E3.H i).c with | .box _ => E1.κ _ | _ => E3.κ i) | none => E1.κ j) = _; rw [h]
mutual
theorem out_rep : ∀ (v : FV T) (cv : Value), RepF E3 v cv → RepF (outE E1 E3 m d bx nb rw) (outF E1.H m d bx nb rw v) cv
  | .d x, cv, h => by rw [outF]; rw [RepF] at h ⊢; exact h
  | .lit b, cv, h => by rw [outF]; rw [RepF] at h ⊢; exact h
  | .prp p i, cv, h => by rw [outF]; rw [RepF] at h ⊢; exact h
  | .elp e xs i off, cv, h => by rw [outF]; rw [RepF] at h ⊢; exact h
  | .nil, cv, h => by rw [outF]; rw [RepF] at h ⊢; exact h
  | .non, cv, _ => by rw [outF, RepF]; trivial
  | .oel _ _ _ _, cv, _ => by rw [outF, RepF]; trivial
  | .agg cs, cv, h => by rw [outF]; rw [RepF] at h ⊢; obtain ⟨vs, h1, h2⟩ := h; exact ⟨vs, h1, out_repL cs vs h2⟩
  | .tup cs, cv, h => by rw [outF]; rw [RepF] at h ⊢; obtain ⟨vs, h1, h2⟩ := h; exact ⟨vs, h1, out_repL cs vs h2⟩
  | .clo f cs, cv, h => by rw [outF]; rw [RepF] at h ⊢; obtain ⟨vs, h1, h2⟩ := h; exact ⟨vs, h1, out_repL cs vs h2⟩
  | .own i g, cv, h => by
    rw [outF]
    cases hb : Nat.beq g 1 && memN i rw with
    | false => show RepF _ .non _; rw [RepF]; trivial
    | true =>
      rw [Bool.and_eq_true] at hb
      obtain rfl := beq_true hb.1
      obtain ⟨e, xs, h1, h2, h3, h4, _⟩ := out_row O (memN_ok hb.2)
      show RepF _ (.own (tgt m d i) (gN E1.H m d i)) cv
      rw [RepF] at h ⊢
      rw [h2, h3, h4]
      obtain ⟨e2, xs2, hc, A, hA⟩ := h.2 (O.g3 i).symm
      refine ⟨⟨Nat.le_refl _, h.1.2⟩, fun _ => ⟨e, xs, .inl rfl, A, ?_⟩⟩
      rw [h1] at hc
      rcases hc with hc | hc
      · obtain ⟨rfl, hx⟩ := Cont.row.inj hc
        obtain rfl := eq_of_heq hx
        exact hA
      · cases hc
  | .ptr i g off, cv, h => by
    rw [outF]
    cases hb : Nat.beq g 1 && memN i bx with
    | false =>
      cases hb2 : Nat.beq g 1 && memN i nb with
      | false => show RepF _ .non _; rw [RepF]; trivial
      | true =>
        rw [Bool.and_eq_true] at hb2
        obtain rfl := beq_true hb2.1
        obtain ⟨cs, _, h1, _, h2, h3⟩ := out_new O (memN_ok hb2.2)
        show RepF _ (.ptr (tgt m d i) ((E1.H (tgt m d i)).g + 1) off) cv
        rw [RepF] at h ⊢
        rw [h2, h3]
        obtain ⟨cs2, hc, hA⟩ := h.2 (O.g3 i).symm
        exact ⟨⟨Nat.le_refl _, h.1.2⟩, fun _ => ⟨_, rfl, hA⟩⟩
    | true =>
      rw [Bool.and_eq_true] at hb
      obtain rfl := beq_true hb.1
      obtain ⟨cs0, cs, _, _, _, h1, _, h2, h3, h4, _⟩ := out_box O (memN_ok hb.2)
      show RepF _ (.ptr (tgt m d i) (E1.H (tgt m d i)).g off) cv
      rw [RepF] at h ⊢
      rw [h2, h3]
      obtain ⟨cs2, hc, hA⟩ := h.2 (O.g3 i).symm
      exact ⟨⟨Nat.le_refl _, h.1.2⟩, fun _ => ⟨_, rfl, hA⟩⟩
theorem out_repL : ∀ (cs : List (FV T)) (vs : List Value), RepL E3 cs vs → RepL (outE E1 E3 m d bx nb rw) (outFL E1.H m d bx nb rw cs) vs
  | [], vs, h => by have _ := O; rw [outFL, RepL]; rw [RepL] at h; exact h
  | c :: cs, vs, h => by
    rw [outFL, RepL]
    rw [RepL] at h
    obtain ⟨v, r, h1, h2, h3⟩ := h
    exact ⟨v, r, h1, out_rep c v h2, out_repL cs r h3⟩
end
/-- A block that is not handed in is as it was. -/
theorem out_same {b : Nat} (hb : b < E1.w.heap.size) (hn : ∀ i j, lookO m i = some j → Has E1 j → E1.η j ≠ b) : E3.w.heap[b]? = E1.w.heap[b]? :=
  O.i3.blk b hb (fun ⟨i, j, h1, h2, h3⟩ => hn i j h1 h2 h3)
theorem out_le : EnvLe E1 (outE E1 E3 m d bx nb rw) := by
  refine ⟨O.i3.size, fun e b hb => ⟨O.i3.s0 e b hb, out_same O (O.i1.slt e b hb) fun i j _ h2 h3 => (O.i1.own j h2).1 e (h3 ▸ hb)⟩, fun j => ?_, fun j hg hc => ?_⟩
  · cases hv : invT m d (bx ++ (nb ++ rw)) j with
    | none =>
      rcases (out_else O hv).1 with ⟨h, _⟩ | h
      · rw [h]; exact Nat.le_refl _
      · rw [h]; exact Nat.le_succ _
    | some i =>
      obtain ⟨h1, rfl⟩ := invT_ok hv
      rcases List.mem_append.1 h1 with h1 | h1
      · obtain ⟨_, _, _, _, _, _, _, h, _⟩ := out_box O h1; rw [h]; exact Nat.le_refl _
      rcases List.mem_append.1 h1 with h1 | h1
      · obtain ⟨_, _, _, _, h, _⟩ := out_new O h1; rw [h]; exact Nat.le_succ _
      · obtain ⟨_, _, _, h, _, _, h5⟩ := out_row O h1
        rw [h]
        show (E1.H _).g ≤ gN E1.H m d i
        rcases h5 with ⟨_, _, _, h5⟩ | ⟨_, h5⟩ <;> rw [h5]
        · exact Nat.le_refl _
        · exact Nat.le_succ _
  · cases hv : invT m d (bx ++ (nb ++ rw)) j with
    | none =>
      obtain ⟨h, h2, h3⟩ := out_else O hv
      rcases h with ⟨h, _⟩ | h
      · rw [h, h2, h3]; exact ⟨((EnvLe.refl E1).same j rfl hc).1, rfl, rfl⟩
      · rw [h] at hg; exact absurd hg (by show ¬ (E1.H j).g = (E1.H j).g + 1; omega)
    | some i =>
      obtain ⟨h1, rfl⟩ := invT_ok hv
      rcases List.mem_append.1 h1 with h1 | h1
      · obtain ⟨cs0, cs, _, _, k1, k2, _, k3, k4, k5, k6⟩ := out_box O h1
        rw [k3, k4, k5, k6, k1]
        exact ⟨⟨_, rfl⟩, rfl, rfl⟩
      rcases List.mem_append.1 h1 with h1 | h1
      · obtain ⟨_, _, _, _, h, _⟩ := out_new O h1; rw [h] at hg; exact absurd hg (by show ¬ (E1.H _).g = (E1.H _).g + 1; omega)
      · obtain ⟨e, xs, _, h, k3, k4, h5⟩ := out_row O h1
        rcases h5 with ⟨a, b, ⟨xs0, c0, hl⟩, _⟩ | ⟨_, h5⟩
        · rw [h, k3, k4, a, b, c0]
          exact ⟨⟨xs, hl, .inl rfl⟩, rfl, rfl⟩
        · rw [h] at hg
          have hg' : (E1.H (tgt m d i)).g = gN E1.H m d i := hg
          omega
theorem out_has {j : Nat} (h : Has (outE E1 E3 m d bx nb rw) j) : (∃ i, i ∈ bx ++ (nb ++ rw) ∧ tgt m d i = j ∧ Has E3 i ∧ (outE E1 E3 m d bx nb rw).η j = E3.η i) ∨ (invT m d (bx ++ (nb ++ rw)) j = none ∧ Has E1 j ∧ j ∉ m.map (·.2) ∧ (outE E1 E3 m d bx nb rw).η j = E1.η j) := by
  cases hv : invT m d (bx ++ (nb ++ rw)) j with
  | none =>
    right
    obtain ⟨h1, h2, h3⟩ := out_else O hv
    rcases h1 with ⟨h1, h4⟩ | h1
    · refine ⟨rfl, ?_, h4, h2⟩
      exact has_same (E := E1) h h1 h3
    · exfalso
      unfold Has at h
      rw [h1] at h
      rcases h with ⟨cs, h⟩ | ⟨e, xs, h, _⟩ <;> cases h
  | some i =>
    left
    obtain ⟨h1, rfl⟩ := invT_ok hv
    rcases List.mem_append.1 h1 with h1' | h1'
    · obtain ⟨cs0, cs, _, _, k1, k2, _, k3, k4, _⟩ := out_box O h1'
      exact ⟨i, h1, rfl, .inl ⟨cs, k2⟩, k4⟩
    rcases List.mem_append.1 h1' with h1' | h1'
    · obtain ⟨cs, _, k2, _, _, k4⟩ := out_new O h1'
      exact ⟨i, h1, rfl, .inl ⟨cs, k2⟩, k4⟩
    · obtain ⟨e, xs, k1, k2, k3, k4, _⟩ := out_row O h1'
      refine ⟨i, h1, rfl, .inr ⟨e, xs, k1, ?_⟩, k3⟩
      unfold Has at h
      rw [k2, k4] at h
      rcases h with ⟨cs, h⟩ | ⟨_, _, _, h⟩
      · cases h
      · exact h
theorem out_inv : InvE B (outE E1 E3 m d bx nb rw) := by
  have hle := out_le O
  have third : ∀ b, b < E1.w.heap.size → (callB E1 m).M0 b → B.w0.heap.size ≤ b ∨ B.M0 b := by
    rintro b _ ⟨i, j, _, h2, rfl⟩
    exact (O.i1.own j h2).2.2
  have far : ∀ i, Has E3 i → ∀ j, Has E1 j → j ∉ m.map (·.2) → E3.η i ≠ E1.η j := by
    intro i hi j hj hnm he
    rcases (O.i3.own i hi).2.2 with h | ⟨i', j', h1, h2, h3⟩
    · have := (O.i1.own j hj).2.1
      have h' : E1.w.heap.size ≤ E3.η i := h
      omega
    · have := O.i1.inj j' j h2 hj (h3.trans he)
      subst this
      exact hnm (List.mem_map.2 ⟨(i', j'), lookO_mem h1, rfl⟩)
  have own3 : ∀ j, Has (outE E1 E3 m d bx nb rw) j → (∀ e, ¬ E3.S e ((outE E1 E3 m d bx nb rw).η j)) ∧ (outE E1 E3 m d bx nb rw).η j < E3.w.heap.size ∧ (B.w0.heap.size ≤ (outE E1 E3 m d bx nb rw).η j ∨ B.M0 ((outE E1 E3 m d bx nb rw).η j)) := by
    intro j h
    rcases out_has O h with ⟨i, _, _, h3, h4⟩ | ⟨_, h2, h3, h4⟩
    · rw [h4]
      have := O.i3.own i h3
      refine ⟨this.1, this.2.1, ?_⟩
      rcases this.2.2 with h | h
      · left; exact Nat.le_trans O.i1.size h
      · obtain ⟨i', j', k1, k2, k3⟩ := h
        exact third _ (by rw [← k3]; exact (O.i1.own j' k2).2.1) ⟨i', j', k1, k2, k3⟩
    · rw [h4]
      have := O.i1.own j h2
      refine ⟨fun e hs => ?_, Nat.lt_of_lt_of_le this.2.1 O.i3.size, this.2.2⟩
      rcases O.i3.s1 e _ hs this.2.1 with h | ⟨i', j', k1, k2, k3⟩
      · exact this.1 e h
      · have := O.i1.inj j' j k2 h2 k3
        subst this
        exact h3 (List.mem_map.2 ⟨(i', j'), lookO_mem k1, rfl⟩)
  refine ⟨fun j => ?_, own3, fun j j' h h' he => ?_, fun j e xs h hk => (own3 j (.inr ⟨e, xs, h, hk⟩)).2.2, O.i3.slt, fun e b hb => O.i3.s0 e b (O.i1.s0 e b hb), fun e b hb hlt => ?_, O.i3.os.trans O.i1.os, O.i3.tape.trans O.i1.tape, O.i3.output.trans O.i1.output, Nat.le_trans O.i1.size O.i3.size, fun k hk hm => ?_, fun j cs hj hcs => ?_, fun j e xs h => ?_⟩
  · cases hv : invT m d (bx ++ (nb ++ rw)) j with
    | none =>
      obtain ⟨h1, h2, h3⟩ := out_else O hv
      rcases h1 with ⟨h1, h4⟩ | h1
      · refine slot_mono hle h1 h2 h3 (fun hh => ?_) (O.i1.slot j)
        refine out_same O (O.i1.own j hh).2.1 fun i' j' k1 k2 k3 => ?_
        have := O.i1.inj j' j k2 hh k3
        subst this
        exact h4 (List.mem_map.2 ⟨(i', j'), lookO_mem k1, rfl⟩)
      · unfold SlotOk; rw [h1]; trivial
    | some i =>
      obtain ⟨h1, rfl⟩ := invT_ok hv
      rcases List.mem_append.1 h1 with h1' | h1'
      · obtain ⟨cs0, cs, _, _, k1, k2, k0, k3, k4, _⟩ := out_box O h1'
        have hs := O.i3.slot i
        unfold SlotOk at hs ⊢
        rw [k2] at hs
        rw [k3, k4]
        obtain ⟨_, arr, t, s2, s3⟩ := hs
        exact ⟨fun c hc => List.all_eq_true.1 k0 c hc, arr, t, s2, out_repL O _ _ s3⟩
      rcases List.mem_append.1 h1' with h1' | h1'
      · obtain ⟨cs, _, k2, k0, k3, k4⟩ := out_new O h1'
        have hs := O.i3.slot i
        unfold SlotOk at hs ⊢
        rw [k2] at hs
        rw [k3, k4]
        obtain ⟨_, arr, t, s2, s3⟩ := hs
        exact ⟨fun c hc => List.all_eq_true.1 k0 c hc, arr, t, s2, out_repL O _ _ s3⟩
      · obtain ⟨e, xs, k1, k2, k3, k4, _⟩ := out_row O h1'
        have hs := O.i3.slot i
        unfold SlotOk at hs ⊢
        rw [k1] at hs
        rw [k2, k3, k4]
        exact hs
  · rcases out_has O h with ⟨i, h1, h2, h3, h4⟩ | ⟨_, h2, h3, h4⟩ <;> rcases out_has O h' with ⟨i', h1', h2', h3', h4'⟩ | ⟨_, h2', h3', h4'⟩
    · rw [h4, h4'] at he
      have := O.i3.inj i i' h3 h3' he
      rw [← h2, ← h2', this]
    · rw [h4, h4'] at he; exact absurd he (far i h3 j' h2' h3')
    · rw [h4, h4'] at he; exact absurd he.symm (far i' h3' j h2 h3)
    · rw [h4, h4'] at he; exact O.i1.inj j j' h2 h2' he
  · have hsz := O.i1.size
    rcases O.i3.s1 e b hb (Nat.lt_of_lt_of_le hlt hsz) with h | h
    · exact O.i1.s1 e b h hlt
    · rcases third b (Nat.lt_of_lt_of_le hlt hsz) h with h | h
      · omega
      · exact .inr h
  · refine (out_same O (Nat.lt_of_lt_of_le hk O.i1.size) fun i' j' k1 k2 k3 => ?_).trans (O.i1.blk k hk hm)
    rcases (O.i1.own j' k2).2.2 with h | h
    · rw [k3] at h; omega
    · rw [k3] at h; exact hm h
  · cases hv : invT m d (bx ++ (nb ++ rw)) j with
    | none =>
      obtain ⟨h1, h2, h3⟩ := out_else O hv
      rcases h1 with ⟨h1, _⟩ | h1
      · rw [h1] at hcs; rw [h2]; exact O.i1.fxd j cs hj hcs
      · rw [h1] at hcs; cases hcs
    | some i =>
      obtain ⟨h1, rfl⟩ := invT_ok hv
      rcases List.mem_append.1 h1 with h1' | h1'
      · obtain ⟨cs0, cs1, _, _, k1, k2, k0, k3, k4, _, k6⟩ := out_box O h1'
        rw [k4, k6]; exact O.i1.fxd _ cs0 hj k1
      rcases List.mem_append.1 h1' with h1' | h1'
      · obtain ⟨cs1, k0, _⟩ := out_new O h1'
        exact absurd hj (Nat.not_le.2 k0)
      · obtain ⟨e, xs, k1, k2, k3, k4, _⟩ := out_row O h1'
        rw [k2] at hcs; cases hcs
  · cases hv : invT m d (bx ++ (nb ++ rw)) j with
    | none =>
      obtain ⟨h1, h2, h3⟩ := out_else O hv
      rcases h1 with ⟨h1, _⟩ | h1
      · rw [h1] at h; rw [h2, h3]; exact O.i1.cap j e xs h
      · rw [h1] at h; cases h
    | some i =>
      obtain ⟨h1, rfl⟩ := invT_ok hv
      rcases List.mem_append.1 h1 with h1' | h1'
      · obtain ⟨cs0, cs1, _, _, k1, k2, k0, k3, k4, _, k6⟩ := out_box O h1'
        rw [k3] at h; cases h
      rcases List.mem_append.1 h1' with h1' | h1'
      · obtain ⟨cs1, _, _, _, k3, _⟩ := out_new O h1'
        rw [k3] at h; cases h
      · obtain ⟨e1, x1, k1, k2, k3, k4, k5⟩ := out_row O h1'
        rw [k2] at h
        obtain ⟨rfl, hx⟩ := Cont.row.inj h
        obtain rfl := eq_of_heq hx
        refine ⟨by rw [k4]; exact (O.i3.cap i _ _ k1).1, fun hj => ?_⟩
        rcases k5 with ⟨a, b, ⟨xs0, c0, hl⟩, _⟩ | ⟨hlt, _⟩
        · have hcp := (O.i1.cap _ _ xs0 c0).2 hj
          rw [k3, k4, a, b]
          exact ⟨hcp.1, hcp.2.1, hl.trans hcp.2.2⟩
        · exact absurd hj (Nat.not_le.2 hlt)
end
end
end Go.Proofs.Ytejfjfhopapaaaa.PE
namespace Go.Proofs.Ytejfjfhopapaaaa.PE
noncomputable section
set_option linter.unusedVariables false
open Go Go.RowKit
variable {T : Tbl} {R : Type}
theorem lcon_of {P : Program} (hT : TblOk P T) {e : Ent2 T} (he : Ent2Ok P T e) {args : List (FV T)} {h : Nat → Slot T} {d : Nat} {x : TupT T.ST e.pin.es} {y : TupT T.ST e.pout.es} {rv : FV T} (hin : in2 e args h = some x) (hF : e.F x = some y) (hrv : resO (canonC e.pout y) e.rts = some rv)
    (hok : okOut (h1Of (mapOf e args h) args h) (mapOf e args h) d (bxOf e (mapOf e args h)) (nbOf e (mapOf e args h)) (e.pout.rws.map (·.1)) (canonC e.pout y).h = true) :
    LCon P T e.n args h (outF (h1Of (mapOf e args h) args h) (mapOf e args h) d (bxOf e (mapOf e args h)) (nbOf e (mapOf e args h)) (e.pout.rws.map (·.1)) rv) (outH (h1Of (mapOf e args h) args h) (mapOf e args h) d (bxOf e (mapOf e args h)) (nbOf e (mapOf e args h)) (e.pout.rws.map (·.1)) (canonC e.pout y).h) := by
  intro B E cargs I hH hargs
  unfold in2 at hin
  generalize hm : mapOf e args h = m at hin hok ⊢
  split at hin
  · rename_i hb
    rw [Bool.and_eq_true] at hb
    have hlen := beq_true hb.1
    have hokin := hb.2
    unfold okIn at hokin
    rw [Bool.and_eq_true, Bool.and_eq_true, List.all_eq_true] at hokin
    have n1 := nodupN_ok hokin.1
    have n2 := nodupN_ok hokin.2.1
    have ge : ∀ i j, lookO m i = some j → HB ≤ i := fun i j hl => Nat.le_of_ble_eq_true (hokin.2.2 _ (lookO_mem hl))
    obtain ⟨E1, w1, H1, le1, I1, _⟩ := frzFs_ok (lvsL m (args ++ boxCells h m)) E I
    have H1' : E1.H = h1Of m args h := by rw [H1, hH]; rfl
    generalize h1Of m args h = h1 at hin hok H1' ⊢
    subst H1'
    have J := call_inv I1 n1 n2
    have hargs1 := RepL.mono le1 args cargs hargs
    have hcl : cargs.length = args.length := hargs.length
    have hrel : Rel (callB E1 m) (callE E1 m) (callS E1.H m args).f { tmps := cargs.toArray, defers := [] } cargs.toArray.size := by
      refine ⟨J, rfl, fun t => ?_, rfl⟩
      show RepF _ (match args[t]? with | some v => renF E1.H m v | none => .non) (cargs.toArray.getD t undef)
      cases ht : args[t]? with
      | none => show RepF _ .non _; rw [RepF]; trivial
      | some v =>
        obtain ⟨cv, h2, h3⟩ := hargs1.get t v ht
        have : cargs.toArray.getD t undef = cv := by
          rw [Array.getD_eq_getD_getElem?, List.getElem?_toArray, h2]; rfl
        rw [this]
        exact ren_rep I1 n1 v cv h3
    obtain ⟨E2, w2, r2, H2⟩ := cut_ok (P := P) hT hrel rfl hin
    have hcall := he.2 x y hF (callB E1 m) E2 cargs r2.inv H2 r2.frame (by rw [hcl]; exact hlen)
    rw [w2, show (callE E1 m).w = E.w from w1] at hcall
    refine hcall.mono fun en w' hR => ?_
    obtain ⟨rv', E3, v, hrv', rfl, rfl, I3, H3, hv⟩ := hR
    rw [hrv] at hrv'
    obtain rfl := Option.some.inj hrv'
    unfold okOut at hok
    rw [Bool.and_eq_true, Bool.and_eq_true, Bool.and_eq_true, List.all_eq_true, List.all_eq_true, List.all_eq_true] at hok
    have O : OutOk B E1 E3 m d (bxOf e m) (nbOf e m) (e.pout.rws.map (·.1)) := by
      refine ⟨I1, I3, fun i => by rw [H3]; unfold canonC; rfl, n1, ge, nodupN_ok hok.1, fun i hi => ?_, fun i hi => ?_, fun i hi => ?_⟩
      · have := hok.2.1 i hi
        rw [Bool.and_eq_true, Bool.and_eq_true, Bool.not_eq_true'] at this
        obtain ⟨this, hnn, hin⟩ := this
        refine ⟨hnn, ?_⟩
        rw [← H3] at this hin
        unfold isRow at this
        split at this
        · rename_i e' xs hc
          refine ⟨e', xs, hc, fun hi' => ?_, fun hi' => ?_⟩
          · unfold rowIn at hin
            rw [Nat.ble_eq_true_of_le hi'] at hin
            simp only at hin
            split at hin
            · rename_i j hj
              rw [hc] at hin
              unfold sameRow at hin
              split at hin
              · rename_i e1 x1 e2 x2 q1 q2
                obtain ⟨rfl, _⟩ := Cont.row.inj q2
                split at hin
                · rename_i hee _
                  subst hee
                  exact ⟨j, x1, hj, q1⟩
                · cases hin
              · cases hin
            · cases hin
          · unfold rowIn at hin
            rw [show Nat.ble HR i = false from by rw [Bool.eq_false_iff]; exact fun h => hi' (Nat.le_of_ble_eq_true h)] at hin
            exact Nat.le_of_ble_eq_true hin
        · cases this
      · have := hok.2.2.1 i hi
        rw [← H3, Bool.and_eq_true] at this
        obtain ⟨t0, t2⟩ := this
        refine ⟨Nat.le_of_ble_eq_true t0, ?_⟩
        split at t2
        · rename_i cs hc
          exact ⟨cs, hc, t2⟩
        · cases t2
      · have := hok.2.2.2 i hi
        rw [← H3] at this
        split at this
        · rename_i j hj
          rw [Bool.and_eq_true, Bool.and_eq_true, Bool.not_eq_true'] at this
          obtain ⟨hnn, t1, t2⟩ := this
          refine ⟨hnn, ?_⟩
          unfold isBox at t1
          split at t1
          · rename_i cs0 hc0
            split at t2
            · rename_i cs hc
              exact ⟨j, cs0, cs, hj, hc0, hc, t2⟩
            · cases t2
          · cases t1
        · cases this
    refine ⟨outE E1 E3 m d _ _ _, v, rfl, rfl, le1.trans (out_le O), out_inv O, out_rep O rv v hv, ?_⟩
    show outH E1.H m d _ _ _ E3.H = _
    rw [H3]
  · cases hin
theorem rcon_of {P : Program} (hT : TblOk P T) {e : Ent3 T} (he : Ent3Ok P T e) {args : List (FV T)} {h : Nat → Slot T} {d : Nat} {x : TupT T.ST e.e.pin.es} {K : FV T → (Nat → Slot T) → Option R} {r : R} (hin : in2 e.e args h = some x) (hF : (e.G R x fun y => out2 e.e d args h y K) = some r) :
    RCon P T e.e.n args h (fun res h' => K res h' = some r) := by
  intro B E cargs I hH hargs
  unfold in2 at hin
  unfold out2 at hF
  generalize hm : mapOf e.e args h = m at hin hF ⊢
  split at hin
  · rename_i hb
    rw [Bool.and_eq_true] at hb
    have hlen := beq_true hb.1
    have hokin := hb.2
    unfold okIn at hokin
    rw [Bool.and_eq_true, Bool.and_eq_true, List.all_eq_true] at hokin
    have n1 := nodupN_ok hokin.1
    have n2 := nodupN_ok hokin.2.1
    have ge : ∀ i j, lookO m i = some j → HB ≤ i := fun i j hl => Nat.le_of_ble_eq_true (hokin.2.2 _ (lookO_mem hl))
    obtain ⟨E1, w1, H1, le1, I1, _⟩ := frzFs_ok (lvsL m (args ++ boxCells h m)) E I
    have H1' : E1.H = h1Of m args h := by rw [H1, hH]; rfl
    generalize h1Of m args h = h1 at hin hF H1' ⊢
    subst H1'
    have J := call_inv I1 n1 n2
    have hargs1 := RepL.mono le1 args cargs hargs
    have hcl : cargs.length = args.length := hargs.length
    have hrel : Rel (callB E1 m) (callE E1 m) (callS E1.H m args).f { tmps := cargs.toArray, defers := [] } cargs.toArray.size := by
      refine ⟨J, rfl, fun t => ?_, rfl⟩
      show RepF _ (match args[t]? with | some v => renF E1.H m v | none => .non) (cargs.toArray.getD t undef)
      cases ht : args[t]? with
      | none => show RepF _ .non _; rw [RepF]; trivial
      | some v =>
        obtain ⟨cv, h2, h3⟩ := hargs1.get t v ht
        have : cargs.toArray.getD t undef = cv := by
          rw [Array.getD_eq_getD_getElem?, List.getElem?_toArray, h2]; rfl
        rw [this]
        exact ren_rep I1 n1 v cv h3
    obtain ⟨E2, w2, r2, H2⟩ := cut_ok (P := P) hT hrel rfl hin
    have hcall := he.2 R x _ r hF (callB E1 m) E2 cargs r2.inv H2 r2.frame (by rw [hcl]; exact hlen)
    rw [w2, show (callE E1 m).w = E.w from w1] at hcall
    refine hcall.mono fun en w' hR => ?_
    obtain ⟨y, hy, rv, E3, v, hrv, rfl, rfl, I3, H3, hv⟩ := hR
    rw [hrv] at hy
    simp only at hy
    split at hy
    rotate_left
    · cases hy
    rename_i hok
    unfold okOut at hok
    rw [Bool.and_eq_true, Bool.and_eq_true, Bool.and_eq_true, List.all_eq_true, List.all_eq_true, List.all_eq_true] at hok
    have O : OutOk B E1 E3 m d (bxOf e.e m) (nbOf e.e m) (e.e.pout.rws.map (·.1)) := by
      refine ⟨I1, I3, fun i => by rw [H3]; unfold canonC; rfl, n1, ge, nodupN_ok hok.1, fun i hi => ?_, fun i hi => ?_, fun i hi => ?_⟩
      · have := hok.2.1 i hi
        rw [Bool.and_eq_true, Bool.and_eq_true, Bool.not_eq_true'] at this
        obtain ⟨this, hnn, hin⟩ := this
        refine ⟨hnn, ?_⟩
        rw [← H3] at this hin
        unfold isRow at this
        split at this
        · rename_i e' xs hc
          refine ⟨e', xs, hc, fun hi' => ?_, fun hi' => ?_⟩
          · unfold rowIn at hin
            rw [Nat.ble_eq_true_of_le hi'] at hin
            simp only at hin
            split at hin
            · rename_i j hj
              rw [hc] at hin
              unfold sameRow at hin
              split at hin
              · rename_i e1 x1 e2 x2 q1 q2
                obtain ⟨rfl, _⟩ := Cont.row.inj q2
                split at hin
                · rename_i hee _
                  subst hee
                  exact ⟨j, x1, hj, q1⟩
                · cases hin
              · cases hin
            · cases hin
          · unfold rowIn at hin
            rw [show Nat.ble HR i = false from by rw [Bool.eq_false_iff]; exact fun h => hi' (Nat.le_of_ble_eq_true h)] at hin
            exact Nat.le_of_ble_eq_true hin
        · cases this
      · have := hok.2.2.1 i hi
        rw [← H3, Bool.and_eq_true] at this
        obtain ⟨t0, t2⟩ := this
        refine ⟨Nat.le_of_ble_eq_true t0, ?_⟩
        split at t2
        · rename_i cs hc
          exact ⟨cs, hc, t2⟩
        · cases t2
      · have := hok.2.2.2 i hi
        rw [← H3] at this
        split at this
        · rename_i j hj
          rw [Bool.and_eq_true, Bool.and_eq_true, Bool.not_eq_true'] at this
          obtain ⟨hnn, t1, t2⟩ := this
          refine ⟨hnn, ?_⟩
          unfold isBox at t1
          split at t1
          · rename_i cs0 hc0
            split at t2
            · rename_i cs hc
              exact ⟨j, cs0, cs, hj, hc0, hc, t2⟩
            · cases t2
          · cases t1
        · cases this
    refine ⟨_, _, outE E1 E3 m d _ _ _, v, hy, rfl, rfl, le1.trans (out_le O), out_inv O, out_rep O rv v hv, ?_⟩
    show outH E1.H m d _ _ _ E3.H = _
    rw [H3]
  · cases hin
theorem calL_ok {P : Program} (hT : TblOk P T) : ∀ {l : List (Ent2 T)}, (∀ e ∈ l, Ent2Ok P T e) → ∀ n d args h (K : FV T → (Nat → Slot T) → Option R) r, calL l n d args h K = some r → ∃ res h', Enters P n ∧ LCon P T n args h res h' ∧ K res h' = some r := by
  intro l
  induction l with
  | nil => intro _ n d args h K r hc; cases hc
  | cons e l ih =>
    intro he n d args h K r hc
    have next := ih (fun e' h' => he e' (List.mem_cons_of_mem _ h')) n d args h K r
    unfold calL at hc
    split at hc
    · rename_i hb
      obtain rfl := beq_true hb
      split at hc
      · rename_i x hx
        obtain ⟨y, h1, h2⟩ := Option.bind_eq_some_iff.1 hc
        unfold out2 at h2
        split at h2
        · rename_i rv hrv
          split at h2
          · rename_i hok
            have hE := he e List.mem_cons_self
            exact ⟨_, _, hE.1, lcon_of hT hE hx h1 hrv hok, h2⟩
          · cases h2
        · cases h2
      · exact next hc
    · exact next hc
theorem calR_ok {P : Program} (hT : TblOk P T) : ∀ {l : List (Ent3 T)}, (∀ e ∈ l, Ent3Ok P T e) → ∀ n d args h (K : FV T → (Nat → Slot T) → Option R) r, calR l n d args h K = some r → Enters P n ∧ RCon P T n args h (fun res h' => K res h' = some r) := by
  intro l
  induction l with
  | nil => intro _ n d args h K r hc; cases hc
  | cons e l ih =>
    intro he n d args h K r hc
    have next := ih (fun e' h' => he e' (List.mem_cons_of_mem _ h')) n d args h K r
    unfold calR at hc
    split at hc
    · rename_i hb
      obtain rfl := beq_true hb
      split at hc
      · rename_i x hx
        have hE := he e List.mem_cons_self
        exact ⟨hE.1, rcon_of hT hE hx hc⟩
      · exact next hc
    · exact next hc
structure EntsOk (P : Program) (T : Tbl) (e : Ents T) : Prop where
  q : EachU (EntOk P T) e.q
  l : EachU (Ent2Ok P T) e.l
  r : EachU (Ent3Ok P T) e.r
def HvOk (P : Program) (T : Tbl) (H : Hvs T) : Prop := ∀ (R : Type) N o s G, H.hv R N o s = some G → ∀ K r, G K = some r → ∀ B, H.nar B → ∀ (E : Env T) a, Rel B E s.f a N → E.H = s.h → ∀ next Q, (∀ s' E' a', K s' = some r → Rel B E' s'.f a' N → E'.H = s'.h → next a' E'.w) → Oper.wp P o a E.w next Q
theorem noHv_ok (P : Program) : HvOk P T noHv := fun _ _ _ _ _ h => by cases h
theorem calH_ok {P : Program} (hT : TblOk P T) {H : Hvs T} (hH : HvOk P T H) {e : Ents T} (h : EntsOk P T e) : CalOk P T (calH H e : Cal T R) :=
  ⟨fun n args K r hc => calQ_ok hT (fun e he => h.q.all e he) n args K r hc,
    fun n d args hh K r hn hc => by
      have hn' : memN n (e.r.map (·.e.n)) = false := hn
      have hc' : (match memN n (e.r.map (·.e.n)) with | true => calR e.r n d args hh K | false => calL e.l n d args hh K) = some r := hc
      rw [hn'] at hc'
      exact calL_ok hT (fun e he => h.l.all e he) n d args hh K r hc',
    fun n d args hh K r hn hc => by
      have hn' : memN n (e.r.map (·.e.n)) = true := hn
      have hc' : (match memN n (e.r.map (·.e.n)) with | true => calR e.r n d args hh K | false => calL e.l n d args hh K) = some r := hc
      rw [hn'] at hc'
      exact calR_ok hT (fun e he => h.r.all e he) n d args hh K r hc',
    fun N o s G => hH R N o s G⟩
theorem calOf_ok {P : Program} (hT : TblOk P T) {e : Ents T} (h : EntsOk P T e) : CalOk P T (calOf e : Cal T R) := calH_ok hT (noHv_ok P) h
theorem box_fz {P : Program} (hT : TblOk P T) {N : Nat} {o : Oper} {s : St T} {t : TypeId} {xo : Operand} {d : Nat} (hop : o.op = .box t xo) (hdst : o.dst = some d) {G : (St T → Option R) → Option R}
    (hG : (match T.ety t, cellsF s.h (ev s xo) with
      | some e, some vs => match !hasOwn [ev s xo] && Nat.blt d N, mkE T e vs with
        | true, some y => some fun K => K ⟨upd s.f d (.elp e [y] 0 0), s.h⟩
        | _, _ => none
      | _, _ => none) = some G) {K : St T → Option R} {r : R} (hK : G K = some r) {B : Base} {E : Env T} {a : Act} (hr : Rel B E s.f a N) (hH : E.H = s.h) {next : Act → World → Prop} {Q : Exit → Act → World → Prop}
    (k : ∀ s' E' a', K s' = some r → Rel B E' s'.f a' N → E'.H = s'.h → next a' E'.w) : Oper.wp P o a E.w next Q := by
  split at hG
  rotate_left
  · cases hG
  rename_i e vs hety hvs
  split at hG
  rotate_left
  · cases hG
  rename_i y hchk hy
  obtain rfl := Option.some.inj hG
  simp only [Bool.and_eq_true, Bool.not_eq_true'] at hchk
  obtain ⟨q2, q5⟩ := hchk
  have fx := ev_rep (E := E) (s := s) (a := a) xo (fun t _ => hr.frame t)
  rw [← hH] at hvs
  obtain ⟨v1, v2, v3⟩ := cellsF_ok (E2 := E) hvs fx (by
    intro c cv y hc hrep hd
    refine dyn1_rep hd ?_ hrep
    rcases hc with rfl | ⟨cs, hagg, hc⟩
    · cases hx : ev s xo <;> first | rfl | (rw [hx] at q2; simp [hasOwn] at q2)
    · rw [hagg] at q2
      simp only [hasOwn] at q2
      split at q2
      · cases q2
      · rename_i hany
        rw [List.any_eq_false] at hany
        have := hany c hc
        cases c <;> first | rfl | simp at this)
  have hrun : (execOp a.eval o).run P E.w = .ok (.value (.pointer (some ⟨E.w.heap.size, 0, none⟩))) (E.w.alloc (.cells (a.eval xo).cells t)) := by
    simp [execOp, hop, Instr.box, newVar, newRow]
  have hnew : (E.w.alloc (.cells (a.eval xo).cells t)).heap[E.w.heap.size]? = some (.cells (a.eval xo).cells t (0, 0)) := by
    show (E.w.heap.push _)[E.w.heap.size]? = _
    exact Array.getElem?_push_size
  have hold : ∀ k, k < E.w.heap.size → (E.w.alloc (.cells (a.eval xo).cells t)).heap[k]? = E.w.heap[k]? := fun k hk => by
    show (E.w.heap.push _)[k]? = _
    rw [Array.getElem?_push, if_neg (by omega)]
  have hsz : (E.w.alloc (.cells (a.eval xo).cells t)).heap.size = E.w.heap.size + 1 := World.size_alloc _ _
  generalize hW : E.w.alloc (.cells (a.eval xo).cells t) = W at hrun hnew hold hsz
  have hw3 : W.os = E.w.os ∧ W.tape = E.w.tape ∧ W.output = E.w.output := by rw [← hW]; exact ⟨rfl, rfl, rfl⟩
  let E' : Env T := ⟨W, fun e' b => E.S e' b ∨ (e' = e ∧ b = E.w.heap.size), E.η, E.κ, E.H⟩
  have hle : EnvLe E E' := ⟨by show _ ≤ W.heap.size; omega, fun e' b hb => ⟨.inl hb, hold b (hr.inv.slt e' b hb)⟩, fun _ => Nat.le_refl _, fun id _ hn => ⟨((EnvLe.refl E).same id rfl hn).1, rfl, rfl⟩⟩
  have I' : InvE B E' := by
    refine ⟨fun id => slot_mono hle rfl rfl rfl (fun h => hold _ (hr.inv.own id h).2.1) (hr.inv.slot id), fun id h => ?_, hr.inv.inj, hr.inv.rowl, fun e' b hb => ?_, fun e' b hb => .inl (hr.inv.s0 e' b hb), fun e' b hb hlt => ?_, hw3.1.trans hr.inv.os, hw3.2.1.trans hr.inv.tape, hw3.2.2.trans hr.inv.output, by show _ ≤ W.heap.size; have := hr.inv.size; omega, fun k hk hm => (hold k (Nat.lt_of_lt_of_le hk hr.inv.size)).trans (hr.inv.blk k hk hm), hr.inv.fxd, hr.inv.cap⟩
    · have := hr.inv.own id h
      have h2 : E.η id < E.w.heap.size := this.2.1
      refine ⟨fun e' hb => ?_, by show E.η id < W.heap.size; omega, this.2.2⟩
      rcases hb with hb | ⟨_, hb⟩
      · exact this.1 e' hb
      · have hb : E.η id = E.w.heap.size := hb
        omega
    · show b < W.heap.size
      rcases hb with hb | ⟨_, rfl⟩
      · have := hr.inv.slt e' b hb; omega
      · omega
    · rcases hb with hb | ⟨_, rfl⟩
      · exact hr.inv.s1 e' b hb hlt
      · have := hr.inv.size; omega
  have hel : RepF E' (.elp e [y] 0 0) (.pointer (some ⟨E.w.heap.size, 0, none⟩)) := by
    rw [RepF]
    refine ⟨E.w.heap.size, 0, rfl, ⟨.inr ⟨rfl, rfl⟩, fun _ => ⟨_, t, hnew⟩⟩, Int.le_refl _, by simp, fun j z hz => ?_⟩
    have hD := mkE_ok hT hy
    have hz : (cellsE T e y)[j]? = some z := hz
    have hj : j < vs.length := by rw [hD.1]; exact (List.getElem?_eq_some_iff.1 hz).1
    obtain ⟨cv, h1, h2⟩ := v3 j _ (List.getElem?_eq_getElem hj)
    refine ⟨cv, ?_, (h2.mono hle.bl).dle (hD.2 j _ z (List.getElem?_eq_getElem hj) hz)⟩
    show W.cell? ⟨E.w.heap.size, 0 + j, none⟩ = some cv
    rw [Nat.zero_add]
    simp only [World.cell?, hnew]
    exact h1
  refine wp_value hrun ?_
  exact k _ E' _ hK (hr.put hle I' hel (.inl ⟨d, hdst, Nat.le_of_ble_eq_true q5, rfl⟩)) hH
theorem hvFz_ok {P : Program} (hT : TblOk P T) (fs : List Nat) : HvOk P T (hvsF T fs) := by
  intro R N o s G hG K r hK B _ E a hr hH next Q k
  have hG : hvFz T fs R N o s = some G := hG
  unfold hvFz at hG
  split at hG
  rotate_left
  · rename_i t xo d hop hdst
    exact box_fz hT hop hdst (by
      split at hG
      · rename_i hm
        exact hG
      · cases hG) hK hr hH k
  · cases hG
  rename_i t ta xo hop hdst
  split at hG
  rotate_left
  · cases hG
  split at hG
  rotate_left
  · cases hG
  rename_i d g e hta hety
  split at hG
  rotate_left
  · cases hG
  rename_i g' cs vs hHd hvs
  split at hG
  rotate_left
  · cases hG
  rename_i y hchk hy
  obtain rfl := Option.some.inj hG
  simp only [Bool.and_eq_true, Bool.not_eq_true'] at hchk
  obtain ⟨q1, q2, q3, q4, q5⟩ := hchk
  have q1 := beq_true q1
  subst q1
  have q3 := beq_true q3
  have hE : E.H d = ⟨g, .box cs⟩ := by rw [hH, hHd]
  have fa := hr.frame ta
  rw [hta, RepF] at fa
  obtain ⟨cs2, hc2, hav⟩ := fa.2 (by rw [hE])
  have fx := ev_rep (E := E) (s := s) (a := a) xo (fun t _ => hr.frame t)
  rw [← hH] at hvs
  obtain ⟨v1, v2, v3⟩ := cellsF_ok (E2 := E) hvs fx (by
    intro c cv y hc hrep hd
    refine dyn1_rep hd ?_ hrep
    rcases hc with rfl | ⟨cs, hagg, hc⟩
    · cases hx : ev s xo <;> first | rfl | (rw [hx] at q2; simp [hasOwn] at q2)
    · rw [hagg] at q2
      simp only [hasOwn] at q2
      split at q2
      · cases q2
      · rename_i hany
        rw [List.any_eq_false] at hany
        have := hany c hc
        cases c <;> first | rfl | simp at this)
  have hsl := hr.inv.slot d
  unfold SlotOk at hsl
  rw [hE] at hsl
  obtain ⟨s1, arr, tt, s2, s3⟩ := hsl
  have hal := s3.length
  have hsize : (a.eval xo).cells.size = vs.length := v1.symm
  obtain ⟨inf, hi, hz⟩ := lay_size (cv := a.eval xo) (E := E) hT q4 (by
    cases hx : ev s xo with
    | agg l => exact .inl ⟨l, rfl⟩
    | _ =>
      right
      rw [hx] at hvs
      unfold cellsF at hvs
      simp only at hvs
      split at hvs
      · rw [← Option.some.inj hvs]; rfl
      · cases hvs) hsize
  have harr : arr.size = vs.length := by rw [q3, ← hal]; simp
  have hrun := store_run (P := P) (t := t) ⟨inf, hi, hz⟩ (p := 0) s2 rfl v2 (by rw [hsize]; omega)
  have hHas : Has E d := .inl ⟨cs, by rw [hE]⟩
  have hown := hr.inv.own d hHas
  have hrow : (arr.toList.take 0 ++ (a.eval xo).cells.toList ++ arr.toList.drop (0 + (a.eval xo).cells.toList.length)).toArray = (a.eval xo).cells := by
    apply Array.ext'
    have : (a.eval xo).cells.toList.length = arr.toList.length := by simp [harr, hsize]
    simp [this]
  rw [hrow] at hrun
  generalize hW : E.w.setRow (E.η d) (a.eval xo).cells = W at hrun
  have hheap : W.heap[E.η d]? = some (.cells (a.eval xo).cells tt (0, 0)) := by rw [← hW]; exact setRow_heap _ _ _ _ _ _ s2
  have hoth : ∀ k, k ≠ E.η d → W.heap[k]? = E.w.heap[k]? := fun k hk => by rw [← hW]; exact setRow_other _ _ _ _ hk
  have hsz : W.heap.size = E.w.heap.size := by rw [← hW]; simp [World.setRow]
  have hw3 : W.os = E.w.os ∧ W.tape = E.w.tape ∧ W.output = E.w.output := by rw [← hW]; exact ⟨rfl, rfl, rfl⟩
  let E' : Env T := ⟨W, fun e' b => E.S e' b ∨ (e' = e ∧ b = E.η d), E.η, E.κ, upd E.H d ⟨g + 1, .none⟩⟩
  have hle : EnvLe E E' := by
    refine ⟨Nat.le_of_eq hsz.symm, fun e' b hb => ⟨.inl hb, hoth b (fun h => hown.1 e' (h ▸ hb))⟩, fun id => ?_, fun id hg hn => ?_⟩
    · show (E.H id).g ≤ (upd E.H d ⟨g + 1, .none⟩ id).g
      by_cases h : id = d
      · subst h; rw [upd_same, hE]; exact Nat.le_succ _
      · rw [upd_other _ _ h]; exact Nat.le_refl _
    · have hg : (E.H id).g = (upd E.H d (⟨g + 1, .none⟩ : Slot T) id).g := hg
      by_cases h : id = d
      · subst h
        rw [upd_same, hE] at hg
        exact absurd hg (by simp)
      · refine ⟨?_, rfl, rfl⟩
        show Shape (E.H id).c (upd E.H d (⟨g + 1, .none⟩ : Slot T) id).c
        rw [upd_other _ _ h]
        exact ((EnvLe.refl E).same id rfl hn).1
  have hHs : ∀ id, Has E' id → Has E id ∧ id ≠ d := by
    intro id h
    by_cases e' : id = d
    · subst e'
      exfalso
      rcases h with ⟨cs, h⟩ | ⟨e1, x1, h, _⟩
      · have h' : (upd E.H id (⟨g + 1, .none⟩ : Slot T) id).c = .box cs := h
        rw [upd_same] at h'; cases h'
      · have h' : (upd E.H id (⟨g + 1, .none⟩ : Slot T) id).c = .row e1 x1 := h
        rw [upd_same] at h'; cases h'
    · exact ⟨has_same (E := E) h (upd_other _ _ e') rfl, e'⟩
  have I' : InvE B E' := by
    refine ⟨fun id => ?_, fun id h => ?_, fun i j hi hj he => hr.inv.inj i j (hHs i hi).1 (hHs j hj).1 he, fun id e1 x1 h1 h2 => ?_, fun e' b hb => ?_, fun e' b hb => .inl (hr.inv.s0 e' b hb), fun e' b hb hlt => ?_, hw3.1.trans hr.inv.os, hw3.2.1.trans hr.inv.tape, hw3.2.2.trans hr.inv.output, by show _ ≤ W.heap.size; rw [hsz]; exact hr.inv.size, fun k hk hm => ?_, fun id cs hid hcs => ?_, fun id e1 x1 h1 => ?_⟩
    · by_cases e' : id = d
      · subst e'
        unfold SlotOk
        show match (upd E.H id (⟨g + 1, .none⟩ : Slot T) id).c with | .none => _ | .box cs => _ | .row e xs => _ | .frz e xs => _
        rw [upd_same]; trivial
      · exact slot_mono hle (upd_other _ _ e') rfl rfl (fun h => hoth _ (fun h' => e' (hr.inv.inj id d h hHas h'))) (hr.inv.slot id)
    · obtain ⟨h1, h2⟩ := hHs id h
      have := hr.inv.own id h1
      refine ⟨fun e' hb => ?_, by show _ < W.heap.size; rw [hsz]; exact this.2.1, this.2.2⟩
      rcases hb with hb | ⟨_, hb⟩
      · exact this.1 e' hb
      · exact h2 (hr.inv.inj id d h1 hHas hb)
    · by_cases e' : id = d
      · subst e'
        have h1' : (upd E.H id (⟨g + 1, .none⟩ : Slot T) id).c = .row e1 x1 := h1
        rw [upd_same] at h1'; cases h1'
      · have h1' : (upd E.H d (⟨g + 1, .none⟩ : Slot T) id).c = .row e1 x1 := h1
        rw [upd_other _ _ e'] at h1'
        exact hr.inv.rowl id e1 x1 h1' h2
    · show b < W.heap.size
      rw [hsz]
      rcases hb with hb | ⟨_, rfl⟩
      · exact hr.inv.slt e' b hb
      · exact hown.2.1
    · rcases hb with hb | ⟨_, rfl⟩
      · exact hr.inv.s1 e' b hb hlt
      · rcases hown.2.2 with h | h
        · omega
        · exact .inr h
    · refine (hoth k ?_).trans (hr.inv.blk k hk hm)
      rintro rfl
      rcases hown.2.2 with h | h
      · omega
      · exact hm h
    · obtain ⟨_, e'⟩ := hHs id (.inl ⟨cs, hcs⟩)
      have hcs' : (upd E.H d (⟨g + 1, .none⟩ : Slot T) id).c = .box cs := hcs
      rw [upd_other _ _ e'] at hcs'
      exact hr.inv.fxd id cs hid hcs'
    · by_cases e' : id = d
      · subst e'
        have h1' : (upd E.H id (⟨g + 1, .none⟩ : Slot T) id).c = .row e1 x1 := h1
        rw [upd_same] at h1'; cases h1'
      · have h1' : (upd E.H d (⟨g + 1, .none⟩ : Slot T) id).c = .row e1 x1 := h1
        rw [upd_other _ _ e'] at h1'
        exact hr.inv.cap id e1 x1 h1'
  have hel : RepF E' (.elp e [y] 0 0) (a.tmps.getD ta undef) := by
    rw [RepF]
    refine ⟨E.η d, 0, by rw [hav], ⟨.inr ⟨rfl, rfl⟩, fun _ => ⟨_, tt, hheap⟩⟩, Int.le_refl _, by simp, fun j z hz => ?_⟩
    have hD := mkE_ok hT hy
    have hz : (cellsE T e y)[j]? = some z := hz
    have hj : j < vs.length := by rw [hD.1]; exact (List.getElem?_eq_some_iff.1 hz).1
    obtain ⟨cv, h1, h2⟩ := v3 j _ (List.getElem?_eq_getElem hj)
    refine ⟨cv, ?_, (h2.mono hle.bl).dle (hD.2 j _ z (List.getElem?_eq_getElem hj) hz)⟩
    show W.cell? ⟨E.η d, 0 + j, none⟩ = some cv
    rw [Nat.zero_add]
    simp only [World.cell?, hheap]
    exact h1
  have hnext := k _ E' a hK ⟨I', hr.size, fun t' => ?_, hr.defers⟩ (by show upd E.H d ⟨g + 1, .none⟩ = _; rw [hH])
  · refine wp_skip' (w' := W) ?_ (by rw [hdst]; exact hnext)
    have hea : a.eval (.tmp ta) = a.tmps.getD ta undef := rfl
    simp only [execOp, hop]
    rw [Sem.run_bind, hea, hav, hrun]
    rfl
  · show RepF E' (upd s.f ta (.elp e [y] 0 0) t') _
    by_cases h : t' = ta
    · subst h; rw [upd_same]; exact hel
    · rw [upd_other _ _ h]; exact RepF.mono hle _ _ (hr.frame t')
theorem calF_ok {P : Program} (hT : TblOk P T) (fs : List Nat) {e : Ents T} (h : EntsOk P T e) : CalOk P T (calF fs e : Cal T R) := calH_ok hT (hvFz_ok hT fs) h
/-- A function's contract, as it is printed. -/
theorem fun_of {P : Program} (hT : TblOk P T) (hm : P.follows .mixedOrders = true) (n : FuncId) (fn : Func) {body : Code} (hfn : P.funcs[n]? = some fn) (hb : fn.body = some body) (hn : (fn.name == "runtime.NumGoroutine") = false) (ash : List Sh) (aes : List Ty) (rsh : Sh) (res : List Ty) (hlen : Nat.ble ash.length fn.ntmps = true)
    (fs : List Nat) (ents : Nat → Ents T) (us : List (CutU T (TupT T.ST res))) (h0 : EachU (fun u => ∀ x, u.L 0 x = none) us) (hs : EachU (fun u => ∀ k x, runU T (calF fs (ents k)) (jmps us k) (finK fn (retK T rsh res)) fn (some u.id) (canonC u.c x) = u.L (k + 1) x) us)
    (F : Nat → TupT T.ST aes → Option (TupT T.ST res)) (hr : ∀ k x, runU T (calF fs (ents k)) (jmps us k) (finK fn (retK T rsh res)) fn none (canon (args0 0 (argL ash aes x)) []) = F k x) (hc : ∀ k, EntsOk P T (ents k)) (k : Nat) : EntOk P T ⟨n, ash, aes, rsh, res, F k⟩ :=
  fun_ent hT hm hfn hb (enters_of hfn hb hn) (Nat.le_of_ble_eq_true hlen) (fun _ _ => trivial) (fun u hu => h0.all u hu) (fun u hu => hs.all u hu) hr (fun k => calF_ok hT fs (hc k)) k
/-- A function that reaches calls with several results, as it is printed. -/
theorem fun_of3 {P : Program} (hT : TblOk P T) (hm : P.follows .mixedOrders = true) (n : FuncId) (fn : Func) {body : Code} (hfn : P.funcs[n]? = some fn) (hb : fn.body = some body) (hn : (fn.name == "runtime.NumGoroutine") = false) (na : Nat) (pin pout : Cut) (hna : Nat.ble na fn.ntmps = true)
    (fs : List Nat) (ents : Nat → Ents T) (us : (R : Type) → (TupT T.ST pout.es → Option R) → List (CutU T R)) (h0 : ∀ R K, EachU (fun u => ∀ x, u.L 0 x = none) (us R K)) (hs : ∀ R K, EachU (fun u => ∀ k x, runU T (calF fs (ents k)) (jmps (us R K) k) (finR pout fn.results.toList K) fn (some u.id) (canonC u.c x) = u.L (k + 1) x) (us R K))
    (F : Nat → (R : Type) → TupT T.ST pin.es → (TupT T.ST pout.es → Option R) → Option R) (hr : ∀ k R K x, runU T (calF fs (ents k)) (jmps (us R K) k) (finR pout fn.results.toList K) fn none (canonC pin x) = F k R x K) (hc : ∀ k, EntsOk P T (ents k)) (k : Nat) : Ent3Ok P T ⟨⟨n, na, pin, pout, fn.results.toList, fun _ => none⟩, F k⟩ :=
  ⟨enters_of hfn hb hn, fun R x K r h B E cargs I hH hf hl => ent3_core hT hm hfn hb (Nat.le_of_ble_eq_true hna) (fun u hu => (h0 R K).all u hu) (fun u hu => (hs R K).all u hu) (fun j hj => calF_ok hT fs (hc j)) (by rw [hr]; exact h) B (fun _ => trivial) E cargs I hH hf hl⟩
/-- The contract of a member of a group, out of those of all of them at fewer rounds. -/
theorem fun_in {P : Program} (hT : TblOk P T) (hm : P.follows .mixedOrders = true) (n : FuncId) (fn : Func) {body : Code} (hfn : P.funcs[n]? = some fn) (hb : fn.body = some body) (hn : (fn.name == "runtime.NumGoroutine") = false) (ash : List Sh) (aes : List Ty) (rsh : Sh) (res : List Ty) (hlen : Nat.ble ash.length fn.ntmps = true)
    (fs : List Nat) (ents : Nat → Ents T) (us : List (CutU T (TupT T.ST res))) (h0 : EachU (fun u => ∀ x, u.L 0 x = none) us) (hs : EachU (fun u => ∀ k x, runU T (calF fs (ents k)) (jmps us k) (finK fn (retK T rsh res)) fn (some u.id) (canonC u.c x) = u.L (k + 1) x) us)
    (F : Nat → TupT T.ST aes → Option (TupT T.ST res)) (hz : ∀ x, F 0 x = none) (hr : ∀ k x, runU T (calF fs (ents k)) (jmps us k) (finK fn (retK T rsh res)) fn none (canon (args0 0 (argL ash aes x)) []) = F (k + 1) x) (k : Nat) (hc : ∀ j, j < k → EntsOk P T (ents j)) : EntOk P T ⟨n, ash, aes, rsh, res, F k⟩ :=
  fun_rec hT hm hfn hb (enters_of hfn hb hn) (Nat.le_of_ble_eq_true hlen) (fun _ _ => trivial) (fun u hu => h0.all u hu) (fun u hu => hs.all u hu) hz hr k (fun j hj => calF_ok hT fs (hc j hj))
/-- A function with slots handed in, as it is printed. -/
theorem fun_of2 {P : Program} (hT : TblOk P T) (hm : P.follows .mixedOrders = true) (n : FuncId) (fn : Func) {body : Code} (hfn : P.funcs[n]? = some fn) (hb : fn.body = some body) (hn : (fn.name == "runtime.NumGoroutine") = false) (na : Nat) (pin pout : Cut) (hna : Nat.ble na fn.ntmps = true)
    (fs : List Nat) (ents : Nat → Ents T) (us : List (CutU T (TupT T.ST pout.es))) (h0 : EachU (fun u => ∀ x, u.L 0 x = none) us) (hs : EachU (fun u => ∀ k x, runU T (calF fs (ents k)) (jmps us k) (finC pout fn.results.toList) fn (some u.id) (canonC u.c x) = u.L (k + 1) x) us)
    (F : Nat → TupT T.ST pin.es → Option (TupT T.ST pout.es)) (hr : ∀ k x, runU T (calF fs (ents k)) (jmps us k) (finC pout fn.results.toList) fn none (canonC pin x) = F k x) (hc : ∀ k, EntsOk P T (ents k)) (k : Nat) : Ent2Ok P T ⟨n, na, pin, pout, fn.results.toList, F k⟩ :=
  fun_ent2 hT hm hfn hb (enters_of hfn hb hn) (Nat.le_of_ble_eq_true hna) (fun _ _ => trivial) (fun u hu => h0.all u hu) (fun u hu => hs.all u hu) hr (fun k => calF_ok hT fs (hc k)) k
theorem fun_in2 {P : Program} (hT : TblOk P T) (hm : P.follows .mixedOrders = true) (n : FuncId) (fn : Func) {body : Code} (hfn : P.funcs[n]? = some fn) (hb : fn.body = some body) (hn : (fn.name == "runtime.NumGoroutine") = false) (na : Nat) (pin pout : Cut) (hna : Nat.ble na fn.ntmps = true)
    (fs : List Nat) (ents : Nat → Ents T) (us : List (CutU T (TupT T.ST pout.es))) (h0 : EachU (fun u => ∀ x, u.L 0 x = none) us) (hs : EachU (fun u => ∀ k x, runU T (calF fs (ents k)) (jmps us k) (finC pout fn.results.toList) fn (some u.id) (canonC u.c x) = u.L (k + 1) x) us)
    (F : Nat → TupT T.ST pin.es → Option (TupT T.ST pout.es)) (hz : ∀ x, F 0 x = none) (hr : ∀ k x, runU T (calF fs (ents k)) (jmps us k) (finC pout fn.results.toList) fn none (canonC pin x) = F (k + 1) x) (k : Nat) (hc : ∀ j, j < k → EntsOk P T (ents j)) : Ent2Ok P T ⟨n, na, pin, pout, fn.results.toList, F k⟩ :=
  fun_rec2 hT hm hfn hb (enters_of hfn hb hn) (Nat.le_of_ble_eq_true hna) (fun _ _ => trivial) (fun u hu => h0.all u hu) (fun u hu => hs.all u hu) hz hr k (fun j hj => calF_ok hT fs (hc j hj))
end
end Go.Proofs.Ytejfjfhopapaaaa.PE
namespace Go.Proofs.Ytejfjfhopapaaaa.PE
noncomputable section
set_option linter.unusedVariables false
open Go Go.RowKit
variable {T : Tbl} {R : Type}
/-- The test's two ways: behind it both come to the same. -/
theorem nil_ok {P : Program} (hT : TblOk P T) {cal : Cal T R} (hcal : CalOk P T cal) (hm : P.follows .mixedOrders = true) {B : Base} {n : FuncId} {fn : Func} {body : Code} {J : Jmp T R} {fin : St T → Option R} {Rp : R → Ending → World → Prop} (hB : cal.nar B) (C : Ctx P T B n fn body J fin Rp)
    {m : Nat} {p : List Bool} {k : List Itm} {id : Nat} {o1 o2 : Oper} {x0 d1 d2 : Nat} {t t2 t' : TypeId} (hcode : codeAt body p = .region id #[o1, o2] false) (h1 : o1.op = .move (.tmp x0)) (h1d : o1.dst = some d1) (h1g : o1.guard = none) (h2 : o2.op = .binOp .eql t (.tmp d1) (.const (.slice none 0 0)) t2) (h2d : o2.dst = some d2) (h2g : o2.guard = none)
    (hd1 : d1 < fn.ntmps) (hd2 : d2 < fn.ntmps) (hu : P.underlying t = some (.slice t')) {s : St T} {e : Ty} {xs : List (Den T.ST e)} (hx : s.f x0 = .d (.lst e xs)) {r : R}
    (hN : xs = [] → arun T cal J fin fn.ntmps body m false k ⟨upd (upd s.f d1 (s.f x0)) d2 (.lit true), s.h⟩ = some r) (hF : arun T cal J fin fn.ntmps body m false k ⟨upd (upd s.f d1 (s.f x0)) d2 (.lit false), s.h⟩ = some r) :
    ∀ (E : Env T) a, Rel B E s.f a fn.ntmps → E.H = s.h → TWP P n ((Itm.code p :: k).map (Itm.item body)) a E.w (Rp r) := by
  intro E a hr hH
  show TWP P n (.code (codeAt body p) :: k.map (Itm.item body)) a E.w (Rp r)
  rw [hcode]
  refine TWP.region (wp_region ?_)
  have hx0 := hr.frame x0
  rw [hx, RepF] at hx0
  obtain ⟨A, c, hA, _, _, hne⟩ := rep_lst hx0
  have r1 : Rel B E (upd s.f d1 (s.f x0)) (a.put (some d1) (a.tmps.getD x0 undef)) fn.ntmps := hr.put (EnvLe.refl E) hr.inv (v := s.f x0) (hr.frame x0) (.inl ⟨d1, rfl, hd1, rfl⟩)
  have r2 : Rel B E (upd (upd s.f d1 (s.f x0)) d2 (.lit A.isNone)) ((a.put (some d1) (a.tmps.getD x0 undef)).put (some d2) (.bool A.isNone)) fn.ntmps := r1.put (EnvLe.refl E) hr.inv (v := .lit A.isNone) (by rw [RepF]) (.inl ⟨d2, rfl, hd2, rfl⟩)
  have hrange : List.range (#[o1, o2] : Array Oper).size = [0, 1] := rfl
  rw [hrange, wpOps_cons]
  unfold wpOp
  simp only [List.getElem?_toArray, List.getElem?_cons_zero]
  rw [if_pos (by simp [Region.wanted, h1g])]
  refine .inl (wp_value (w' := E.w) (cv := a.tmps.getD x0 undef) (by simp [execOp, h1, Act.eval]) ?_)
  rw [h1d, wpOps_cons]
  unfold wpOp
  simp only [List.getElem?_toArray, List.getElem?_cons_succ, List.getElem?_cons_zero]
  rw [if_pos (by simp [Region.wanted, h2g])]
  have hev : (a.put (some d1) (a.tmps.getD x0 undef)).eval (.tmp d1) = .slice A xs.length c := by
    show (a.put (some d1) (a.tmps.getD x0 undef)).tmps.getD d1 undef = _
    rw [put_getD a d1 d1 _ (by rw [hr.size]; exact hd1), if_pos rfl]
    exact hA
  refine .inl (wp_value (w' := E.w) (cv := .bool A.isNone) ?_ ?_)
  · have hc : (a.put (some d1) (a.tmps.getD x0 undef)).eval (.const (.slice none 0 0)) = .slice none 0 0 := rfl
    have hb : (Go.binOp .eql t (.slice A xs.length c) (.slice none 0 0)).run P E.w = .ok (.bool A.isNone) E.w := by
      show Sem.run P (do pure (Value.bool (← Op.equal t (.slice A xs.length c) (.slice none 0 0)))) E.w = _
      rw [Sem.run_bind, run_equal_slice_nil E.w t t' A xs.length c hu]
      rfl
    have hg : (eqGuard .eql t (.tmp d1) (.const (.slice none 0 0)) (.slice A xs.length c) (.slice none 0 0)).run P E.w = .ok () E.w := by
      simp [eqGuard]
    simp only [execOp, h2, hev, hc]
    simp [hg, hb]
  · rw [h2d]
    refine ⟨rfl, ?_⟩
    cases hAn : A.isNone with
    | true =>
      have hxe : xs = [] := by
        by_cases h : xs = []
        · exact h
        · obtain ⟨b, o, hb, _⟩ := hne h
          rw [hb] at hAn; cases hAn
      rw [hAn] at r2
      exact arun_ok hT hcal hm hB C _ _ _ _ _ (hN hxe) E _ r2 hH
    | false =>
      rw [hAn] at r2
      exact arun_ok hT hcal hm hB C _ _ _ _ _ hF E _ r2 hH
/-- A function with slots handed in that asks once whether a list is nil, at a cut point. -/
theorem fun_nil2 {P : Program} (hT : TblOk P T) (hm : P.follows .mixedOrders = true) (n : FuncId) (fn : Func) {body : Code} (hfn : P.funcs[n]? = some fn) (hb : fn.body = some body) (hn : (fn.name == "runtime.NumGoroutine") = false) (na : Nat) (pin pout : Cut) (hna : Nat.ble na fn.ntmps = true)
    (rid : Nat) (c : Cut) (G : TupT T.ST c.es → Option (TupT T.ST pout.es)) (p : List Bool) (k : List Itm) (hfind : find rid body [] [] = some (.code p :: k)) (o1 o2 : Oper) (x0 d1 d2 : Nat) (t t2 t' : TypeId) (hcode : codeAt body p = .region rid #[o1, o2] false) (h1 : o1.op = .move (.tmp x0)) (h1d : o1.dst = some d1) (h1g : o1.guard = none) (h2 : o2.op = .binOp .eql t (.tmp d1) (.const (.slice none 0 0)) t2) (h2d : o2.dst = some d2) (h2g : o2.guard = none)
    (hd1 : Nat.blt d1 fn.ntmps = true) (hd2 : Nat.blt d2 fn.ntmps = true) (hu : P.underlying t = some (.slice t')) (e : Ty) (X : TupT T.ST c.es → List (Den T.ST e)) (hx : ∀ x, (canonC (T := T) c x).f x0 = .d (.lst e (X x)))
    (hN : ∀ x y, X x = [] → G x = some y → arun T (calOf ⟨[], [], []⟩) (fun _ => none) (finC pout fn.results.toList) fn.ntmps body 100000 false k ⟨upd (upd (canonC c x).f d1 ((canonC c x).f x0)) d2 (.lit true), (canonC c x).h⟩ = some y)
    (hF : ∀ x y, G x = some y → arun T (calOf ⟨[], [], []⟩) (fun _ => none) (finC pout fn.results.toList) fn.ntmps body 100000 false k ⟨upd (upd (canonC c x).f d1 ((canonC c x).f x0)) d2 (.lit false), (canonC c x).h⟩ = some y)
    (F : TupT T.ST pin.es → Option (TupT T.ST pout.es)) (hr : ∀ x, runU T (calOf ⟨[], [], []⟩) (fun i => match Nat.beq rid i with | true => some (fun s => match cutR c s with | some x => G x | none => none) | false => none) (finC pout fn.results.toList) fn none (canonC pin x) = F x) : Ent2Ok P T ⟨n, na, pin, pout, fn.results.toList, F⟩ := by
  have hcal : CalOk P T (calOf ⟨[], [], []⟩ : Cal T (TupT T.ST pout.es)) := calOf_ok hT ⟨True.intro, True.intro, True.intro⟩
  refine ⟨enters_of hfn hb hn, fun x y h B E cargs I hH hf hl => ?_⟩
  have hrun := (hr x).trans h
  refine calls_of_twp hfn hb ?_
  have hrel : Rel B E (canonC pin x).f { tmps := cargs.toArray ++ Array.replicate (fn.ntmps - cargs.toArray.size) undef, defers := [] } fn.ntmps :=
    ⟨I, by have hl : cargs.length = na := hl; simp; have := Nat.le_of_ble_eq_true hna; omega, fun t => by show RepF E _ ((cargs.toArray ++ Array.replicate _ undef).getD t undef); rw [getD_pad]; exact hf t, rfl⟩
  have C0 : Ctx P T B n fn body (fun _ => none) (finC pout fn.results.toList) (fun y => Post2 B pout fn.results.toList y) := ⟨hfn, hb, (fun _ _ h => by cases h), fun s r hs E a hr hH => fin2_ok hT hs E a hr hH⟩
  have C : Ctx P T B n fn body (fun i => match Nat.beq rid i with | true => some (fun s => match cutR c s with | some x => G x | none => none) | false => none) (finC pout fn.results.toList) (fun y => Post2 B pout fn.results.toList y) := by
    refine ⟨hfn, hb, fun i j hj s r hs kk hk E a hrel hH => ?_, fun s r hs E a hr hH => fin2_ok hT hs E a hr hH⟩
    split at hj
    · rename_i hbq
      obtain rfl := beq_true hbq
      obtain rfl := Option.some.inj hj
      simp only at hs
      split at hs
      · rename_i x' hx'
        rw [hfind] at hk
        obtain rfl := Option.some.inj hk
        obtain ⟨E', w', r', H'⟩ := cutR_ok (P := P) hT hrel hH hx'
        have := nil_ok hT hcal hm trivial C0 (m := 100000) hcode h1 h1d h1g h2 h2d h2g (Nat.le_of_ble_eq_true hd1) (Nat.le_of_ble_eq_true hd2) hu (s := canonC c x') (hx x') (fun h0 => hN x' r h0 hs) (hF x' r hs) E' a r' H'
        rw [w'] at this
        exact this
      · cases hs
    · cases hj
  have hcode0 : codeAt body [] = body := by cases body <;> rfl
  have := unit_ok hT hcal hm trivial C hrun [.code []] rfl E _ hrel hH
  rw [List.map_cons, List.map_nil, Itm.item, hcode0] at this
  exact this
end
end Go.Proofs.Ytejfjfhopapaaaa.PE
namespace Go.Proofs.Ytejfjfhopapaaaa.PE
noncomputable section
set_option linter.unusedVariables false
open Go Go.RowKit
variable {T : Tbl} {R : Type}
/-- A row's slot is filled anew: in its own block, or in a new one. -/
theorem own_put {B : Base} {E : Env T} (I : InvE B E) {id g : Nat} {e : Ty} {xs zs : List (Den T.ST e)} (hH' : E.H id = ⟨g, .row e xs⟩) (W : World) (b' κ' : Nat) (arr : Array Value) (tt : TypeId) (hsz : E.w.heap.size ≤ W.heap.size) (hW : ∀ k, k < E.w.heap.size → k ≠ b' → W.heap[k]? = E.w.heap[k]?)
    (hb : (b' = E.η id ∧ E.κ id ≠ 0) ∨ b' = E.w.heap.size) (hh : W.heap[b']? = some (.cells arr tt (0, 0))) (hs : arr.size = κ' * szE T e) (hl : zs.length ≤ κ') (hm : κ' ≤ maxLen ∧ id < HR) (he : Elems T W E.S e zs (fun k => arr[k]?)) (hkd : T.str e = true → Kinds T e κ' (fun k => arr[k]?)) (ho : W.os = E.w.os) (ht : W.tape = E.w.tape) (hu : W.output = E.w.output) :
    ∃ E', E'.w = W ∧ EnvLe E E' ∧ InvE B E' ∧ RepF E' (.own id (g + 1)) (.slice (some ⟨b', 0, none⟩) zs.length κ') ∧ E'.H = upd E.H id ⟨g + 1, .row e zs⟩ := by
  obtain ⟨hle0, I0⟩ := inv_drop I id (g + 1) (by rw [hH']; exact Nat.lt_succ_self _)
  have hd0 : (upd E.H id (⟨g + 1, .none⟩ : Slot T) id).c = .none := by rw [upd_same]
  have hg0 : (upd E.H id (⟨g + 1, .none⟩ : Slot T) id).g = g + 1 := by rw [upd_same]
  have hlt : b' < W.heap.size := (Array.getElem?_eq_some_iff.1 hh).1
  have hnS : ∀ e, ¬ E.S e b' := by
    rcases hb with ⟨rfl, hκ⟩ | rfl
    · exact (I.own id (.inr ⟨e, xs, by rw [hH'], hκ⟩)).1
    · exact fun _ h => absurd (I.slt _ _ h) (Nat.lt_irrefl _)
  have hne : ∀ id', Has (⟨E.w, E.S, E.η, E.κ, upd E.H id ⟨g + 1, .none⟩⟩ : Env T) id' → E.η id' ≠ b' := by
    intro id' h' he'
    have hne : id' ≠ id := by
      rintro rfl
      unfold Has at h'
      rcases h' with ⟨cs, h'⟩ | ⟨_, _, h', _⟩
      · have h2 : (upd E.H id' (⟨g + 1, .none⟩ : Slot T) id').c = .box cs := h'
        rw [upd_same] at h2; cases h2
      · have h2 : (upd E.H id' (⟨g + 1, .none⟩ : Slot T) id').c = _ := h'
        rw [upd_same] at h2; cases h2
    have hh' := has_same (E := E) h' (upd_other _ _ hne) rfl
    rcases hb with ⟨rfl, hκ⟩ | rfl
    · exact hne (I.inj id' id hh' (.inr ⟨e, xs, by rw [hH'], hκ⟩) he')
    · have := (I.own id' hh').2.1; omega
  have hbb : B.w0.heap.size ≤ b' ∨ B.M0 b' := by
    rcases hb with ⟨rfl, hκ⟩ | rfl
    · exact (I.own id (.inr ⟨e, xs, by rw [hH'], hκ⟩)).2.2
    · exact .inl I.size
  obtain ⟨f1, f2⟩ := inv_fill (c := .row e zs) I0 b' κ' hd0 W hsz hW hnS hne hbb (fun _ h => by cases h) hm ho ht hu (fun _ => hlt) (fun hle => by
    unfold SlotOk
    show match (upd (upd E.H id (⟨g + 1, .none⟩ : Slot T)) id (⟨(upd E.H id (⟨g + 1, .none⟩ : Slot T) id).g, .row e zs⟩ : Slot T) id).c with | .none => _ | .box cs => _ | .row e xs => _ | .frz e xs => _
    rw [upd_same]
    show zs.length ≤ upd E.κ id κ' id ∧ (upd E.κ id κ' id ≠ 0 → ∃ arr t, W.heap[upd E.η id b' id]? = some (.cells arr t (0, 0)) ∧ arr.size = upd E.κ id κ' id * szE T e ∧ (T.str e = true → Kinds T e (upd E.κ id κ' id) (fun k => arr[k]?)) ∧ Elems T W E.S e zs (fun k => arr[k]?))
    rw [upd_same, upd_same]
    exact ⟨hl, fun _ => ⟨arr, tt, hh, hs, hkd, he⟩⟩)
  refine ⟨_, rfl, hle0.trans f1, f2, ?_, ?_⟩
  · rw [RepF]
    refine ⟨⟨?_, rfl⟩, fun _ => ⟨e, zs, .inl ?_, some ⟨b', 0, none⟩, ?_, ?_⟩⟩
    · show g + 1 ≤ (upd (upd E.H id (⟨g + 1, .none⟩ : Slot T)) id _ id).g
      rw [upd_same]; show g + 1 ≤ (upd E.H id (⟨g + 1, .none⟩ : Slot T) id).g; rw [hg0]; exact Nat.le_refl _
    · show (upd (upd E.H id (⟨g + 1, .none⟩ : Slot T)) id _ id).c = _; rw [upd_same]
    · show _ = Value.slice _ _ (upd E.κ id κ' id); rw [upd_same]
    · show upd E.κ id κ' id ≠ 0 → _ = some (⟨upd E.η id b' id, 0, none⟩ : Addr); rw [upd_same, upd_same]; exact fun _ => rfl
  · show upd (upd E.H id (⟨g + 1, .none⟩ : Slot T)) id _ = _
    funext j
    by_cases e' : j = id
    · subst e'; rw [upd_same, upd_same]; show (⟨(upd E.H j (⟨g + 1, .none⟩ : Slot T) j).g, _⟩ : Slot T) = _; rw [upd_same]
    · rw [upd_other _ _ e', upd_other _ _ e', upd_other _ _ e']
def intsV (xs : List Int) : List Value := xs.map (Value.int .i64)
theorem intsV_one (xs : List Int) : ∀ v ∈ intsV xs, v.oneCell' = true := by
  intro v hv
  obtain ⟨x, _, rfl⟩ := List.mem_map.1 hv
  rfl
theorem intsV_len (a : List Int) : (intsV a).length = a.length := List.length_map ..
theorem elems_ints {w : World} {S : E → Nat → Prop} {xs : List Int} {f : Nat → Option Value} (h : Elems T w S (.int .i64) xs f) : ∀ (j : Nat) v, (intsV xs)[j]? = some v → f j = some v := by
  intro j v hj
  unfold intsV at hj
  rw [List.getElem?_map] at hj
  obtain ⟨x, hx, rfl⟩ := Option.map_eq_some_iff.1 hj
  obtain ⟨cv, h1, h2⟩ := h j x hx 0 (.int .i64 x) rfl
  have h1 : f (j * 1 + 0) = some cv := h1
  rw [Nat.mul_one, Nat.add_zero] at h1
  rw [h1, rep_int.1 h2]
theorem ints_elems {w : World} {S : E → Nat → Prop} {xs : List Int} {f : Nat → Option Value} (h : ∀ (j : Nat) v, (intsV xs)[j]? = some v → f j = some v) : Elems T w S (.int .i64) xs f := by
  intro i x hx j y hy
  cases j with
  | succ j => exact absurd hy (by simp [cellsE])
  | zero =>
    have hy : some (Dyn.int (ST := T.ST) .i64 x) = some y := hy
    obtain rfl := Option.some.inj hy
    refine ⟨.int .i64 x, ?_, rep_int.2 rfl⟩
    show f (i * 1 + 0) = _
    rw [Nat.mul_one, Nat.add_zero]
    refine h i _ ?_
    unfold intsV
    rw [List.getElem?_map, hx]; rfl
theorem take_ints {arr : Array Value} {xs : List Int} (h : ∀ (j : Nat) v, (intsV xs)[j]? = some v → arr[j]? = some v) : arr.toList.take xs.length = intsV xs := by
  apply List.ext_getElem?
  intro j
  rcases Nat.lt_or_ge j xs.length with hj | hj
  · rw [List.getElem?_take_of_lt hj, Array.getElem?_toList]
    have hj' : j < (intsV xs).length := by rw [intsV_len]; exact hj
    rw [List.getElem?_eq_getElem hj', h j _ (List.getElem?_eq_getElem hj')]
  · rw [List.getElem?_take_eq_none hj, List.getElem?_eq_none (by rw [intsV_len]; exact hj)]
theorem ints_take {arr : Array Value} {xs : List Int} (h : arr.toList.take xs.length = intsV xs) : ∀ (j : Nat) v, (intsV xs)[j]? = some v → arr[j]? = some v := by
  intro j v hj
  rw [← h, List.getElem?_take] at hj
  split at hj
  · rw [← Array.getElem?_toList]; exact hj
  · cases hj
theorem cells_same (g : Nat) : ∀ (vs : List Value) (o : Nat) (w : World), (w.setCells g o vs).os = w.os ∧ (w.setCells g o vs).tape = w.tape ∧ (w.setCells g o vs).output = w.output ∧ (w.setCells g o vs).heap.size = w.heap.size ∧ ∀ k, k ≠ g → (w.setCells g o vs).heap[k]? = w.heap[k]?
  | [], _, _ => ⟨rfl, rfl, rfl, rfl, fun _ _ => rfl⟩
  | v :: r, o, w => by
    obtain ⟨h1, h2, h3, h4, h5⟩ := cells_same g r (o + 1) (w.setCell ⟨g, o, none⟩ v)
    rw [World.setCells]
    exact ⟨h1, h2, h3, by rw [h4]; simp [World.setCell], fun k hk => (h5 k hk).trans (Below.heap_setCell w ⟨g, o, none⟩ v k hk)⟩
theorem cells_row {g : Nat} {e : TypeId} : ∀ (vs : List Value) (o : Nat) (w : World) (cur : Array Value), w.heap[g]? = some (.cells cur e (0, 0)) → o + vs.length ≤ cur.size →
    ∃ cur', (w.setCells g o vs).heap[g]? = some (.cells cur' e (0, 0)) ∧ cur'.size = cur.size ∧ cur'.toList = cur.toList.take o ++ vs ++ cur.toList.drop (o + vs.length)
  | [], o, w, cur, h, _ => ⟨cur, h, rfl, by simp⟩
  | v :: r, o, w, cur, h, hl => by
    have h2 : (w.setCell ⟨g, o, none⟩ v).heap[g]? = some (.cells (cur.setIfInBounds o v) e (0, 0)) := by simp [World.setCell, Array.getElem?_modify, h]
    simp only [List.length_cons] at hl
    obtain ⟨cur', h3, h4, h5⟩ := cells_row r (o + 1) (w.setCell ⟨g, o, none⟩ v) _ h2 (by simp; omega)
    refine ⟨cur', h3, by rw [h4]; simp, ?_⟩
    rw [h5, Array.toList_setIfInBounds]
    have ho : o < cur.toList.length := by rw [Array.length_toList]; omega
    rw [List.take_set, List.drop_set_of_lt (by omega)]
    simp only [List.length_cons]
    rw [show o + 1 + r.length = o + (r.length + 1) by omega]
    congr 1
    rw [List.take_succ_eq_append_getElem ho, List.set_append_right _ _ (by rw [List.length_take]; omega)]
    have ho' : o < cur.size := by omega
    simp [Nat.min_eq_left (Nat.le_of_lt ho')]
theorem splice_a (A cs vs rest : List Value) (n i : Nat) (hA : A.take i = cs.take i) (hi : i ≤ n) (hc : cs.length = n) (hv : vs.length = 1) (hr : A.length ≥ i) : ((A.take i ++ vs ++ cs.drop i ++ rest).take (n + 1)) = cs.take i ++ (vs ++ cs.drop i) := by
  have e : (A.take i ++ vs ++ cs.drop i).length = n + 1 := by simp; omega
  rw [List.take_append_of_le_length (by omega), List.take_of_length_le (by omega), hA, List.append_assoc]
theorem splice_b (A cs vs rest : List Value) (N n : Nat) (hl : (A.take (n + 1)).length = n + 1) (hA : A.take n = cs.take n) (hi : n ≤ N) (hc : cs.length = N) (hv : vs.length = 1) : ((A.take (n + 1) ++ cs.drop n ++ rest).take n ++ vs ++ (A.take (n + 1) ++ cs.drop n ++ rest).drop (n + 1)).take (N + 1) = cs.take n ++ (vs ++ cs.drop n) := by
  have e1 : (A.take (n + 1) ++ cs.drop n ++ rest).take n = A.take n := by rw [List.append_assoc, List.take_append_of_le_length (by omega), List.take_take, Nat.min_eq_left (by omega)]
  have e2 : (A.take (n + 1) ++ cs.drop n ++ rest).drop (n + 1) = cs.drop n ++ rest := by rw [List.append_assoc, List.drop_append_of_le_length (by omega), List.drop_of_length_le (by omega), List.nil_append]
  rw [e1, e2, ← List.append_assoc]
  exact splice_a _ _ _ _ _ _ hA hi hc hv (by rw [List.length_take] at hl; omega)
theorem heap_new (w : World) (o : Obj) : (w.alloc o).heap[w.heap.size]? = some o := by
  show (w.heap.push o)[w.heap.size]? = _
  exact Array.getElem?_push_size
theorem heap_old (w : World) (o : Obj) (k : Nat) (h : k < w.heap.size) : (w.alloc o).heap[k]? = w.heap[k]? := by
  show (w.heap.push o)[k]? = _
  rw [Array.getElem?_push, if_neg (by omega)]
set_option maxHeartbeats 1000000 in
/-- One number into an own row, at a place in it. -/
theorem ins_core {P : Program} {ρ : Go.Shelf.Ren} (L : Go.Proofs.Lays2.n21 P ρ) (hst : T.str (.int .i64) = false) {B : Base} {E : Env T} (I : InvE B E) {id id2 g : Nat} {xs : List Int} {y : Int} (hdr : id < HR) (hne : id ≠ id2) (hH : E.H id = ⟨g, .row (.int .i64) xs⟩) {g2 : Nat} (hH2 : E.H id2 = ⟨g2, .row (.int .i64) [y]⟩) {v0 v2 : Value} (h0 : RepF E (.own id g) v0) (h2 : RepF E (.own id2 g2) v2)
    (n : Nat) (hn : n ≤ xs.length) (hlen : xs.length < 17592186044415) : Calls P (ρ.f 21) #[v0, .int .i64 (n : Int), v2] E.w (fun e w' => ∃ E' v, e = .returned v ∧ E'.w = w' ∧ InvE B E' ∧ RepF E' (.own id (g + 1)) v ∧ E'.H = upd E.H id ⟨g + 1, .row (.int .i64) (xs.take n ++ ([y] ++ xs.drop n))⟩) := by
  have hm : maxLen = 9223372036854775807 := rfl
  obtain ⟨A0, hA0, hA0'⟩ := own_hdr h0 (by rw [hH]) (.inl (by rw [hH]))
  obtain ⟨A2, hA2, hA2'⟩ := own_hdr h2 (by rw [hH2]) (.inl (by rw [hH2]))
  subst hA0
  subst hA2
  have sl0 := I.slot id
  have sl2 := I.slot id2
  unfold SlotOk at sl0 sl2
  rw [hH] at sl0
  rw [hH2] at sl2
  have hκ2 : E.κ id2 ≠ 0 := by have := sl2.1; simp at this; omega
  obtain ⟨vcur, vt, hvh, hvs, _, hve⟩ := sl2.2 hκ2
  have hvs : vcur.size = E.κ id2 * 1 := hvs
  have hA2e := hA2' hκ2
  have has2 : Has E id2 := .inr ⟨_, _, by rw [hH2], hκ2⟩
  have hvc := elems_ints hve
  generalize hvb : E.η id2 = vb at hvh hA2e has2
  generalize hvk : E.κ id2 = vc at hvs
  subst hA2e
  have hvcells : ∀ j v, (intsV [y])[j]? = some v → E.w.cell? ⟨vb, 0 + j, none⟩ = some v := by
    intro j v hj
    rw [cell_of_row E.w vb _ _ _ _ hvh, Nat.zero_add]
    exact hvc j v hj
  have hv1 : (intsV [y]).length = 1 := rfl
  have hcapm : E.κ id ≤ maxLen := (I.cap id (.int .i64) xs (by rw [hH])).1
  have hL : (xs.take n ++ ([y] ++ xs.drop n)).length = xs.length + 1 := by simp; omega
  have hI : intsV (xs.take n ++ ([y] ++ xs.drop n)) = (intsV xs).take n ++ (intsV [y] ++ (intsV xs).drop n) := by unfold intsV; rw [List.map_append, List.map_append, List.map_take, List.map_drop]
  have done : ∀ (W : World) (b' κ' : Nat) (arr : Array Value) (tt : TypeId), E.w.heap.size ≤ W.heap.size → (∀ k, k < E.w.heap.size → k ≠ b' → W.heap[k]? = E.w.heap[k]?) → ((b' = E.η id ∧ E.κ id ≠ 0) ∨ b' = E.w.heap.size) → W.heap[b']? = some (.cells arr tt (0, 0)) → arr.size = κ' → xs.length + 1 ≤ κ' → κ' ≤ maxLen →
      arr.toList.take (xs.length + 1) = (intsV xs).take n ++ (intsV [y] ++ (intsV xs).drop n) → W.os = E.w.os → W.tape = E.w.tape → W.output = E.w.output → ∃ E' v, Ending.returned (.slice (some ⟨b', 0, none⟩) (xs.length + 1) κ') = .returned v ∧ E'.w = W ∧ InvE B E' ∧ RepF E' (.own id (g + 1)) v ∧ E'.H = upd E.H id ⟨g + 1, .row (.int .i64) (xs.take n ++ ([y] ++ xs.drop n))⟩ := by
    intro W b' κ' arr tt a1 a2 a3 a4 a5 a6 a7 a8 a9 a10 a11
    obtain ⟨E', e1, e2, e3, e4, e5⟩ := own_put (e := .int .i64) I (xs := xs) (zs := (xs.take n ++ ([y] ++ xs.drop n) : List Int)) hH W b' κ' arr tt a1 a2 a3 a4 (by show arr.size = κ' * 1; rw [a5, Nat.mul_one]) (by rw [hL]; exact a6) ⟨a7, hdr⟩ (ints_elems (ints_take (by rw [hL, hI]; exact a8))) (fun h => by rw [hst] at h; cases h) a9 a10 a11
    rw [hL] at e4
    exact ⟨E', _, rfl, e1, e3, e4, e5⟩
  by_cases hκ : E.κ id = 0
  · have hx : xs = [] := List.length_eq_zero_iff.1 (by have := sl0.1; omega)
    subst hx
    have : n = 0 := by simpa using hn
    subst this
    rw [hκ]
    refine (Go.Proofs.Any2.slices_Insert_int_end_grow L A0 0 0 vb 0 1 vc [] (intsV [y]) E.w (by omega) (by omega) (by omega) (by omega) rfl hv1 (fun _ => rfl) (fun a _ j v h => by simp at h) hvcells (intsV_one _)).mono ?_
    rintro e w' ⟨rfl, rfl⟩
    have gc := grownCap_ge E.w 1 0 (ρ.t 3)
    refine done _ E.w.heap.size _ _ (ρ.t 3) (by rw [World.size_alloc]; show E.w.heap.size ≤ E.w.heap.size + 1; omega) (fun k hk _ => heap_old E.w.drew _ k hk) (.inr rfl) (heap_new E.w.drew _) ?_ gc (grownCap_le_maxLen _ _ _ _ (by omega)) ?_ rfl rfl rfl
    · rw [Array.size_append, size_zeroCells]
      simp [intsV, Value.cells]
      omega
    · simp [intsV]
  · obtain ⟨cur, ct, hh, hcs, _, hce⟩ := sl0.2 hκ
    have hcs : cur.size = E.κ id * 1 := hcs
    rw [Nat.mul_one] at hcs
    have hA0e := hA0' hκ
    subst hA0e
    have has0 : Has E id := .inr ⟨_, _, by rw [hH], hκ⟩
    have hvg : vb ≠ E.η id := fun e => hne (I.inj id id2 has0 has2 (by rw [hvb]; exact e.symm))
    have hxl := sl0.1
    have hcc := elems_ints hce
    have hct := take_ints hcc
    generalize hgb : E.η id = gb at hh hvg
    generalize hck : E.κ id = cap at hcs hxl hcapm hκ
    have hcells : ∀ j v, (intsV xs)[j]? = some v → E.w.cell? ⟨gb, 0 + j, none⟩ = some v := by
      intro j v hj
      rw [cell_of_row E.w gb _ _ _ _ hh, Nat.zero_add]
      exact hcc j v hj
    have hsp : ∀ j, j < cap → (E.w.cell? ⟨gb, 0 + j, none⟩).isSome = true := by
      intro j hj
      rw [cell_of_row E.w gb _ _ _ _ hh, Nat.zero_add, Array.getElem?_eq_getElem (by omega)]
      rfl
    have hfz : ∀ j, E.w.frozen? ⟨gb, j, none⟩ = false := fun j => by simp [World.frozen?, hh]
    have hfz2 : ∀ j, E.w.frozen? ⟨vb, j, none⟩ = false := fun j => by simp [World.frozen?, hvh]
    have hown : ∀ b', b' = gb → (b' = E.η id ∧ E.κ id ≠ 0) ∨ b' = E.w.heap.size := fun b' h => .inl ⟨by rw [h, hgb], by rw [hck]; exact hκ⟩
    by_cases hroom : xs.length + 1 ≤ cap
    · by_cases hin : n < xs.length
      · refine (Go.Proofs.Any2.slices_Insert_int_shift L gb 0 xs.length cap n vb 0 1 vc (intsV xs) (intsV [y]) E.w hin (by omega) hroom (by omega) hvg (intsV_len xs) hv1 hcells (fun j hj => hsp j (by omega)) (fun j _ => hfz _) hvcells (intsV_one _) (intsV_one _) vt ct vcur.size cur.size (by simp [World.shape?, hvh]) (by simp [World.shape?, hh]) (by omega) (hfz2 _) (hfz2 _)).mono ?_
        rintro e w' ⟨rfl, rfl⟩
        obtain ⟨c1, k1, k2, k3⟩ := cells_row ((intsV xs).drop n) (0 + (n + 1)) E.w.drew cur hh (by rw [List.length_drop, intsV_len]; omega)
        obtain ⟨c2, k4, k5, k6⟩ := cells_row (intsV [y]) (0 + n) _ c1 k1 (by rw [hv1]; omega)
        have key : c2.toList.take (xs.length + 1) = (intsV xs).take n ++ (intsV [y] ++ (intsV xs).drop n) := by
          rw [k6, k3, hv1, Nat.zero_add, Nat.zero_add]
          have l1 : (cur.toList.take (n + 1)).length = n + 1 := by rw [List.length_take, Array.length_toList]; omega
          exact splice_b _ _ _ _ _ _ l1 (by rw [← hct, List.take_take, Nat.min_eq_left hn]) hn (intsV_len xs) hv1
        obtain ⟨s1, s2, s3, s4, s5⟩ := cells_same gb ((intsV xs).drop n) (0 + (n + 1)) E.w.drew
        obtain ⟨t1, t2, t3, t4, t5⟩ := cells_same gb (intsV [y]) (0 + n) (E.w.drew.setCells gb (0 + (n + 1)) ((intsV xs).drop n))
        exact done _ gb cap c2 ct (by rw [t4, s4]; exact Nat.le_refl _) (fun k _ hk => (t5 k hk).trans (s5 k hk)) (hown gb rfl) k4 (by rw [k5, k2]; exact hcs) hroom hcapm key (t1.trans s1) (t2.trans s2) (t3.trans s3)
      · have hne' : n = xs.length := by omega
        subst hne'
        refine (Go.Proofs.Any2.slices_Insert_int_end_room L gb 0 xs.length cap vb 0 1 vc (intsV [y]) E.w (by omega) hroom (by omega) hv1 (fun j hj => by have := hsp (xs.length + j) (by omega); rwa [Nat.zero_add] at this ⊢) (fun j _ => hfz _) hvcells (intsV_one _)).mono ?_
        rintro e w' ⟨rfl, rfl⟩
        obtain ⟨c1, k1, k2, k3⟩ := cells_row (intsV [y]) (0 + xs.length) E.w cur hh (by rw [hv1]; omega)
        obtain ⟨t1, t2, t3, t4, t5⟩ := cells_same gb (intsV [y]) (0 + xs.length) E.w
        have key : c1.toList.take (xs.length + 1) = (intsV xs).take xs.length ++ (intsV [y] ++ (intsV xs).drop xs.length) := by
          rw [k3, hv1, Nat.zero_add, List.drop_of_length_le (l := intsV xs) (by rw [intsV_len]; omega), List.append_nil, List.take_append_of_le_length (by simp; omega), List.take_of_length_le (by simp; omega), hct, List.take_of_length_le (l := intsV xs) (by rw [intsV_len]; omega)]
        exact done _ gb cap c1 ct (by rw [t4]; exact Nat.le_refl _) (fun k _ hk => t5 k hk) (hown gb rfl) k1 (by rw [k2]; exact hcs) hroom hcapm key t1 t2 t3
    · by_cases hin : n < xs.length
      · refine (Go.Proofs.Any2.slices_Insert_int_grow L gb 0 xs.length cap n vb 0 1 vc (intsV xs) (intsV [y]) E.w hin (by omega) hxl (by omega) (by omega) (intsV_len xs) hv1 hcells hvcells (intsV_one _) (intsV_one _)).mono ?_
        rintro e w' ⟨rfl, rfl⟩
        have gc := grownCap_ge E.w (xs.length + 1) cap (ρ.t 3)
        have gm : grownCap E.w (xs.length + 1) cap (ρ.t 3) ≤ maxLen := grownCap_le_maxLen E.w _ _ _ (by omega)
        generalize grownCap E.w (xs.length + 1) cap (ρ.t 3) = K at gc gm
        obtain ⟨A, hA⟩ : ∃ A, (((intsV xs).take n).toArray ++ Builtin.zeroCells (Value.int .i64 0).cells (xs.length + 1 - n) ++ Builtin.zeroCells (Value.int .i64 0).cells (K - (xs.length + 1))) = A := ⟨_, rfl⟩
        have hAs : A.size = K := by
          rw [← hA, Array.size_append, Array.size_append, size_zeroCells, size_zeroCells]
          simp [intsV_len, Value.cells]
          omega
        have hAt : A.toList.take n = (intsV xs).take n := by
          rw [← hA, Array.toList_append, Array.toList_append, List.append_assoc, List.take_append_of_le_length (by simp [intsV_len]; omega), List.take_of_length_le (by simp; exact Nat.min_le_left _ _)]
        rw [hA]
        obtain ⟨c1, k1, k2, k3⟩ := cells_row (intsV [y]) n (E.w.alloc (.cells A (ρ.t 3))).drew A (heap_new E.w _) (by rw [hv1]; omega)
        obtain ⟨c2, k4, k5, k6⟩ := cells_row ((intsV xs).drop n) (n + 1) (((E.w.alloc (.cells A (ρ.t 3))).drew.setCells E.w.heap.size n (intsV [y])).drew) c1 k1 (by rw [List.length_drop, intsV_len]; omega)
        have key : c2.toList.take (xs.length + 1) = (intsV xs).take n ++ (intsV [y] ++ (intsV xs).drop n) := by
          rw [k6, k3, hv1]
          have l1 : (A.toList.take n ++ intsV [y]).length = n + 1 := by simp [hv1]; omega
          rw [List.take_append_of_le_length (l₁ := A.toList.take n ++ intsV [y]) (by omega), List.take_of_length_le (l := A.toList.take n ++ intsV [y]) (by omega)]
          exact splice_a _ _ _ _ _ _ hAt hn (intsV_len xs) hv1 (by rw [Array.length_toList]; omega)
        obtain ⟨s1, s2, s3, s4, s5⟩ := cells_same E.w.heap.size (intsV [y]) n (E.w.alloc (.cells A (ρ.t 3))).drew
        obtain ⟨t1, t2, t3, t4, t5⟩ := cells_same E.w.heap.size ((intsV xs).drop n) (n + 1) (((E.w.alloc (.cells A (ρ.t 3))).drew.setCells E.w.heap.size n (intsV [y])).drew)
        have hsz0 : ((E.w.alloc (.cells A (ρ.t 3))).drew).heap.size = E.w.heap.size + 1 := World.size_alloc _ _
        refine done _ E.w.heap.size K c2 (ρ.t 3) ?_ (fun k hk hne => (t5 k hne).trans ((s5 k hne).trans (heap_old E.w _ k hk))) (.inr rfl) k4 (by rw [k5, k2]; exact hAs) gc gm key (t1.trans s1) (t2.trans s2) (t3.trans s3)
        rw [t4]
        show E.w.heap.size ≤ ((E.w.alloc (.cells A (ρ.t 3))).drew.setCells E.w.heap.size n (intsV [y])).heap.size
        rw [s4, hsz0]; omega
      · have hne' : n = xs.length := by omega
        subst hne'
        refine (Go.Proofs.Any2.slices_Insert_int_end_grow L (some ⟨gb, 0, none⟩) xs.length cap vb 0 1 vc (intsV xs) (intsV [y]) E.w (by omega) hxl (by omega) (by omega) (intsV_len xs) hv1 (fun h => by cases h) (fun a h j v hj => by cases h; have h_ := hcells j v hj; rw [add0]; exact h_) hvcells (intsV_one _)).mono ?_
        rintro e w' ⟨rfl, rfl⟩
        have gc := grownCap_ge E.w (xs.length + 1) cap (ρ.t 3)
        have gm : grownCap E.w (xs.length + 1) cap (ρ.t 3) ≤ maxLen := grownCap_le_maxLen E.w _ _ _ (by omega)
        generalize grownCap E.w (xs.length + 1) cap (ρ.t 3) = K at gc gm
        refine done _ E.w.heap.size K _ (ρ.t 3) (by rw [World.size_alloc]; show E.w.heap.size ≤ E.w.heap.size + 1; omega) (fun k hk _ => heap_old E.w.drew _ k hk) (.inr rfl) (heap_new E.w.drew _) ?_ gc gm ?_ rfl rfl rfl
        · rw [Array.size_append, size_zeroCells]; simp [intsV_len, hv1, Value.cells]; omega
        · rw [Array.toList_append, List.take_append_of_le_length (by simp [intsV_len, hv1]), List.take_of_length_le (by simp [intsV_len, hv1]), List.drop_of_length_le (l := intsV xs) (by rw [intsV_len]; omega), List.take_of_length_le (l := intsV xs) (by rw [intsV_len]; omega), List.append_nil]
@[reducible] def insIn : Cut := ⟨[], [], [(0, .own 1073741824), (1, .one), (2, .own 1073741825)], [], [(1073741824, .int .i64), (1073741825, .int .i64)], [.int .i64, .lst (.int .i64), .lst (.int .i64)]⟩
@[reducible] def insOut (r : Nat) : Cut := ⟨[], [], [(r, .own 1073741824)], [], [(1073741824, .int .i64)], [.lst (.int .i64)]⟩
def insF (i : Int) (l0 l2 : List Int) : Option (List Int) := if 0 ≤ i then (if i ≤ (l0.length : Int) then (if l2.length = 1 then (if l0.length < 17592186044415 then some (l0.take i.toNat ++ (l2 ++ l0.drop i.toNat)) else none) else none) else none) else none
theorem ins_ent {P : Program} (hT : TblOk P T) {ρ : Go.Shelf.Ren} (L : Go.Proofs.Lays2.n21 P ρ) (hst : T.str (.int .i64) = false) (hen : Enters P (ρ.f 21)) (r : Nat) : Ent2Ok P T ⟨ρ.f 21, 3, insIn, insOut r, [.tmp r], fun x => insF x.1 x.2.1 x.2.2⟩ := by
  refine ⟨hen, fun x y h B E cargs I hH hf hl => ?_⟩
  obtain ⟨i, xs, vs⟩ := x
  have h : insF i xs vs = some y := h
  unfold insF at h
  split at h
  · rename_i h0
    split at h
    · rename_i h1
      split at h
      · rename_i h2
        split at h
        · rename_i h3
          have hy := Option.some.inj h
          have h0 : (0 : Int) ≤ i := h0
          obtain ⟨n, rfl⟩ : ∃ n : Nat, i = (n : Int) := ⟨Int.toNat i, (Int.toNat_of_nonneg h0).symm⟩
          obtain ⟨z, rfl⟩ : ∃ z, vs = [z] := List.length_eq_one_iff.1 h2
          rw [Int.toNat_natCast] at hy
          have f0 := hf 0
          have f1 := hf 1
          have f2 := hf 2
          obtain ⟨v0, v1, v2, rfl⟩ : ∃ v0 v1 v2, cargs = [v0, v1, v2] := by
            have hl : cargs.length = 3 := hl
            match cargs, hl with
            | [a, b, c], _ => exact ⟨a, b, c, rfl⟩
          have f0 : RepF E (.own 1073741824 1) v0 := f0
          have f1 : RepF E (.d (.int .i64 (n : Int))) v1 := f1
          have f2 : RepF E (.own 1073741825 1) v2 := f2
          rw [RepF] at f1
          rw [rep_int.1 f1]
          have hHa : E.H 1073741824 = ⟨1, .row (.int .i64) xs⟩ := by rw [hH]; rfl
          have hHb : E.H 1073741825 = ⟨1, .row (.int .i64) [z]⟩ := by rw [hH]; rfl
          refine (ins_core (hdr := (by decide : 1073741824 < HR)) L hst I (by decide) hHa hHb f0 f2 n (by omega) h3).mono ?_
          rintro e w' ⟨E', v, rfl, rfl, I', hv, hH'⟩
          let s : St T := ⟨fun t => if t = r then .own 1073741824 2 else .non, E'.H⟩
          have hrel : Rel B E' s.f { tmps := (Array.replicate (r + 1) undef).setIfInBounds r v, defers := [] } (r + 1) := by
            refine ⟨I', by simp, fun t => ?_, rfl⟩
            show RepF E' (if t = r then .own 1073741824 2 else .non) _
            by_cases e : t = r
            · subst e; rw [if_pos rfl]
              have : ((Array.replicate (t + 1) undef).setIfInBounds t v).getD t undef = v := by simp [Array.getD]
              rw [this]; exact hv
            · rw [if_neg e, RepF]; trivial
          have hcut : cutS (insOut r) s = some y := by
            have hs : s = ⟨fun t => if t = r then .own 1073741824 2 else .non, upd (canonC (T := T) insIn ((n : Int), xs, [z])).h 1073741824 ⟨2, .row (.int .i64) y⟩⟩ := by
              show (⟨_, E'.H⟩ : St T) = _
              rw [hH', hH, hy]
            rw [hs]
            have hrr : Nat.beq r r = true := Nat.beq_refl r
            simp only [cutS, insOut, frzl, List.map_cons, List.map_nil, List.append_nil, frzFs, norm, memN, hrr, getF, if_true, getB, getR, okM, boxOk]
            rfl
          obtain ⟨E2, w2, r2, H2⟩ := cut_ok (P := P) hT hrel rfl hcut
          refine ⟨.own 1073741824 1, E2, v, ?_, rfl, w2, r2.inv, H2, ?_⟩
          · have hrr : Nat.beq r r = true := Nat.beq_refl r
            have hfr : (canonC (T := T) (insOut r) y).f r = .own 1073741824 1 := by
              show lookN (FV.non : FV T) [(r, FV.own 1073741824 1)] r = _
              unfold lookN; rw [hrr]
            show (match (match some ((canonC (T := T) (insOut r) y).f r), some [] with | some v, some l => some (v :: l) | _, _ => none) with | some [v] => some v | some l => some (.tup l) | none => none) = _
            rw [hfr]
          · have hfr := r2.frame r
            have hrr : Nat.beq r r = true := Nat.beq_refl r
            have : (canonC (T := T) (insOut r) y).f r = .own 1073741824 1 := by
              show lookN (FV.non : FV T) [(r, FV.own 1073741824 1)] r = _
              unfold lookN; rw [hrr]
            rw [this] at hfr
            have hg : ((Array.replicate (r + 1) undef).setIfInBounds r v).getD r undef = v := by simp [Array.getD]
            rw [hg] at hfr
            exact hfr
        · cases h
      · cases h
    · cases h
  · cases h
end
end Go.Proofs.Ytejfjfhopapaaaa.PE
namespace Go.Proofs.Ytejfjfhopapaaaa.PE
noncomputable section
set_option linter.unusedVariables false
open Go Go.RowKit
variable {T : Tbl} {R : Type}
/-- What a cell may become. -/
inductive ChD (T : Tbl) (W : Dyn T.ST → Prop) : Dyn T.ST → Dyn T.ST → Prop
  | same (d : Dyn T.ST) : ChD T W d d
  | put (a b : Dyn T.ST) (h : sk a b) (hw : W b) : ChD T W a b
  | lst (e : E) (xs ys : List (Den T.ST e)) (hl : ys.length = xs.length) (h : ∀ (i : Nat) (x y : Den T.ST e), xs[i]? = some x → ys[i]? = some y → ∀ (j : Nat) (a b : Dyn T.ST), (cellsE T e x)[j]? = some a → (cellsE T e y)[j]? = some b → ChD T W a b) : ChD T W (.lst e xs) (.lst e ys)
/-- What a value in a slot may become: what it leads to may be another. -/
def ChS (T : Tbl) (W : Dyn T.ST → Prop) (d d' : Dyn T.ST) : Prop := d = d' ∨ ∃ (e : E) (xs ys : List (Den T.ST e)), d = .lst e xs ∧ d' = .lst e ys ∧ ys.length = xs.length ∧
  ∀ (i : Nat) (x y : Den T.ST e), xs[i]? = some x → ys[i]? = some y → ∀ (j : Nat) (a b : Dyn T.ST), (cellsE T e x)[j]? = some a → (cellsE T e y)[j]? = some b → ChD T W a b
theorem ChS.ch {W : Dyn T.ST → Prop} {d d' : Dyn T.ST} (h : ChS T W d d') : ChD T W d d' := by
  rcases h with rfl | ⟨e, xs, ys, rfl, rfl, hl, h⟩
  · exact .same _
  · exact .lst e xs ys hl h
theorem sk_self_of {W : Dyn T.ST → Prop} {a b : Dyn T.ST} (h : ChD T W a b) (ha : sk a a) : sk a b := by
  cases h with
  | same => exact ha
  | put _ _ h _ => exact h
  | lst e xs ys hl h => exact rfl
theorem cells_mk {P : Program} (hT : TblOk P T) (e : E) (x : Den T.ST e) (l : List (Dyn T.ST)) (h : SK l (cellsE T e x)) : ∃ y, cellsE T e y = l := by
  cases e with
  | int k => obtain ⟨m, l', rfl, h2⟩ := SK.int h; obtain rfl := h2.inv0; exact ⟨m, rfl⟩
  | bool => obtain ⟨m, l', rfl, h2⟩ := SK.bool h; obtain rfl := h2.inv0; exact ⟨m, rfl⟩
  | str => obtain ⟨m, l', rfl, h2⟩ := SK.str h; obtain rfl := h2.inv0; exact ⟨m, rfl⟩
  | lst e => obtain ⟨m, l', rfl, h2⟩ := SK.lst h; obtain rfl := h2.inv0; exact ⟨m, rfl⟩
  | st s => exact hT.mkx s l (h.trans (hT.kin s x))
theorem choose_all {α : Type} {Q : Nat → α → Prop} : ∀ n, (∀ j, j < n → ∃ v, Q j v) → ∃ vs : List α, vs.length = n ∧ ∀ (j : Nat) v, vs[j]? = some v → Q j v := by
  intro n
  induction n with
  | zero => intro _; exact ⟨[], rfl, fun j v h => by simp at h⟩
  | succ n ih =>
    intro h
    obtain ⟨vs, hl, hv⟩ := ih (fun j hj => h j (by omega))
    obtain ⟨v, hq⟩ := h n (by omega)
    refine ⟨vs ++ [v], by simp [hl], fun j u hu => ?_⟩
    by_cases hj : j < n
    · rw [List.getElem?_append_left (by omega)] at hu
      exact hv j u hu
    · rw [List.getElem?_append_right (by omega)] at hu
      have : j = n := by
        have := (List.getElem?_eq_some_iff.1 hu).1
        simp at this
        omega
      subst this
      simp [hl] at hu
      subst hu
      exact hq
/-- Cells are written: whatever was read as a value is read as another one. -/
structure Wr (T : Tbl) (W : Dyn T.ST → Prop) (w w' : World) (S S' : E → Nat → Prop) : Prop where
  sub : ∀ e b, S e b → S' e b
  pl : ∀ e b, S e b → (∃ arr t, w.heap[b]? = some (.cells arr t (0, 0))) → ∃ arr t, w'.heap[b]? = some (.cells arr t (0, 0))
  cell : ∀ e b, S e b → ∀ o v, w.cell? ⟨b, o, none⟩ = some v → w'.cell? ⟨b, o, none⟩ = some v ∨ ∃ v', w'.cell? ⟨b, o, none⟩ = some v' ∧ (∀ y : Dyn T.ST, kd y v → kd y v') ∧
    ∀ d : Dyn T.ST, (∃ (x : Den T.ST e) (j : Nat), (cellsE T e x)[j]? = some d) → Rep T w S d v → ∃ d', sk d d' ∧ W d' ∧ Rep T w' S' d' v' ∧ low T b d' v'
theorem kinds_wr {W : Dyn T.ST → Prop} {w w' : World} {S S' : E → Nat → Prop} (h : Wr T W w w' S S') {e : E} {b o n : Nat} (hs : S e b) (k : Kinds T e n (fun k => w.cell? ⟨b, o + k, none⟩)) : Kinds T e n (fun k => w'.cell? ⟨b, o + k, none⟩) := by
  intro i hi j y hj
  obtain ⟨cv, h1, h2⟩ := k i hi j y hj
  rcases h.cell e b hs _ cv h1 with h3 | ⟨v', h3, h4, _⟩
  · exact ⟨cv, h3, h2⟩
  · exact ⟨v', h3, h4 y h2⟩
theorem room_wr {W : Dyn T.ST → Prop} {w w' : World} {S S' : E → Nat → Prop} (h : Wr T W w w' S S') {e : E} {c : Nat} {A : Option Addr} (k : Room T w S e c A) : Room T w' S' e c A := by
  intro he hc
  obtain ⟨b, o, h1, h2, h3, h4⟩ := k he hc
  exact ⟨b, o, h1, h.sub e b h2, h.pl e b h2 h3, kinds_wr h h2 h4⟩
theorem low_sk {b : Nat} {a d : Dyn T.ST} {v : Value} (h : low T b a v) (k : sk a d) : low T b d v := by
  cases a <;> cases d <;> first | exact k.elim | trivial | (cases k; exact h)
theorem wr_rep {P : Program} (hT : TblOk P T) {W : Dyn T.ST → Prop} {w w' : World} {S S' : E → Nat → Prop} (h : Wr T W w w' S S') : ∀ (m : Nat) (d : Dyn T.ST) (v : Value), RepD T w S m d v → ∃ d', ChS T W d d' ∧ Rep T w' S' d' v := by
  intro m
  induction m with
  | zero => intro d v k; exact k.elim
  | succ m ih =>
    intro d v k
    cases d with
    | int kk n => exact ⟨_, .inl rfl, 1, k⟩
    | bool b => exact ⟨_, .inl rfl, 1, k⟩
    | str s => exact ⟨_, .inl rfl, 1, k⟩
    | nil => exact ⟨_, .inl rfl, 1, k⟩
    | lst e xs =>
      obtain ⟨A, c, rfl, h2, h0, h3⟩ := k
      by_cases hx : xs = []
      · subst hx
        exact ⟨_, .inl rfl, rep_lst_mk h2 (room_wr h h0) (fun hn => absurd rfl hn)⟩
      obtain ⟨b, o, rfl, hs, hc⟩ := h3 hx
      have one : ∀ i, i < xs.length → ∃ y : Den T.ST e, (∀ x, xs[i]? = some x → ∀ (j : Nat) (a d : Dyn T.ST), (cellsE T e x)[j]? = some a → (cellsE T e y)[j]? = some d → ChD T W a d) ∧
          ∀ (j : Nat) (d : Dyn T.ST), (cellsE T e y)[j]? = some d → ∃ cv, w'.cell? ⟨b, o + i * szE T e + j, none⟩ = some cv ∧ Rep T w' S' d cv ∧ low T b d cv := by
        intro i hi
        have hxi : xs[i]? = some xs[i] := List.getElem?_eq_getElem hi
        have cell : ∀ j, j < (cellsE T e xs[i]).length → ∃ d : Dyn T.ST, (∀ a, (cellsE T e xs[i])[j]? = some a → ChD T W a d) ∧ ∃ cv, w'.cell? ⟨b, o + i * szE T e + j, none⟩ = some cv ∧ Rep T w' S' d cv ∧ low T b d cv := by
          intro j hj
          have hyj : (cellsE T e xs[i])[j]? = some (cellsE T e xs[i])[j] := List.getElem?_eq_getElem hj
          obtain ⟨cv, g1, g2, g3⟩ := hc i _ hxi j _ hyj
          have hself : sk (cellsE T e xs[i])[j] (cellsE T e xs[i])[j] := (cells_sk hT e xs[i] xs[i]).2 j _ _ hyj hyj
          rcases h.cell e b hs _ cv g1 with h4 | ⟨v', h4, _, h5⟩
          · obtain ⟨d, k1, k2⟩ := ih _ cv g2
            exact ⟨d, fun a ha => by rw [hyj] at ha; obtain rfl := Option.some.inj ha; exact k1.ch, cv, h4, k2, low_sk g3 (sk_self_of k1.ch hself)⟩
          · obtain ⟨d, k1, k2, k3, k4⟩ := h5 _ ⟨_, _, hyj⟩ ⟨m, g2⟩
            exact ⟨d, fun a ha => by rw [hyj] at ha; obtain rfl := Option.some.inj ha; exact .put _ _ k1 k2, v', h4, k3, k4⟩
        obtain ⟨l, hl, hq⟩ := choose_all (cellsE T e xs[i]).length cell
        obtain ⟨y, hy⟩ := cells_mk hT e xs[i] l ⟨hl, fun j d a hd ha => by
          have := (hq j d hd).1 a ha
          exact sk_symm (sk_self_of this ((cells_sk hT e xs[i] xs[i]).2 j _ _ ha ha))⟩
        refine ⟨y, fun x hx' j a d ha hd => ?_, fun j d hd => ?_⟩
        · rw [hxi] at hx'
          obtain rfl := Option.some.inj hx'
          rw [hy] at hd
          exact (hq j d hd).1 a ha
        · rw [hy] at hd
          exact (hq j d hd).2
      obtain ⟨ys, hl, hq⟩ := choose_all xs.length one
      refine ⟨.lst e ys, .inr ⟨e, xs, ys, rfl, rfl, hl, fun i x y hx hy j a d ha hd => (hq i y hy).1 x hx j a d ha hd⟩, ?_⟩
      rw [← hl]
      refine rep_lst_mk (by rw [hl]; exact h2) (room_wr h h0) fun _ => ⟨b, o, rfl, h.sub e b hs, fun i x hi j y hj => ?_, fun i x hi j y hj cv hcv => ?_⟩
      · obtain ⟨cv, g1, g2, _⟩ := (hq i x hi).2 j y hj
        refine ⟨cv, ?_, g2⟩
        show w'.cell? ⟨b, o + (i * szE T e + j), none⟩ = some cv
        rw [← Nat.add_assoc]; exact g1
      · obtain ⟨cv', g1, _, g3⟩ := (hq i x hi).2 j y hj
        have hcv : w'.cell? ⟨b, o + (i * szE T e + j), none⟩ = some cv := hcv
        rw [← Nat.add_assoc, g1] at hcv
        rw [← Option.some.inj hcv]
        exact g3
end
end Go.Proofs.Ytejfjfhopapaaaa.PE
namespace Go.Proofs.Ytejfjfhopapaaaa.PE
noncomputable section
set_option linter.unusedVariables false
open Go Go.RowKit
variable {T : Tbl} {R : Type}
/-- Cell by cell, what it may become. -/
def CL (W : Dyn T.ST → Prop) : List (FV T) → List (FV T) → Prop
  | [], [] => True
  | a :: x, b :: y => (∃ p q, a = .d p ∧ b = .d q ∧ ChS T W p q) ∧ CL W x y
  | _, _ => False
def ChT (T : Tbl) (W : Dyn T.ST → Prop) (es : List E) (x y : TupT T.ST es) : Prop := CL W (cellsT T es x) (cellsT T es y)
def AllD : List (FV T) → Prop | [] => True | c :: cs => (∃ d, c = .d d) ∧ AllD cs
theorem CL.refl {W : Dyn T.ST → Prop} : ∀ {cs : List (FV T)}, AllD cs → CL W cs cs
  | [], _ => trivial
  | c :: cs, h => by obtain ⟨⟨d, rfl⟩, h2⟩ := h; exact ⟨⟨d, d, rfl, rfl, .inl rfl⟩, CL.refl h2⟩
theorem allD_map : ∀ (l : List (Dyn T.ST)), AllD (l.map FV.d)
  | [] => trivial
  | d :: l => ⟨⟨d, rfl⟩, allD_map l⟩
theorem AllD.append : ∀ {a b : List (FV T)}, AllD a → AllD b → AllD (a ++ b)
  | [], _, _, h => h
  | _ :: _, _, h, k => ⟨h.1, h.2.append k⟩
theorem allD_cells : ∀ (es : List E) (x : TupT T.ST es), AllD (cellsT T es x)
  | [], _ => trivial
  | [e], x => allD_map _
  | e :: e2 :: l, x => (allD_map _).append (allD_cells (e2 :: l) x.2)
/-- No rows of the frame's own in it. -/
def noRow : Pt → Bool
  | .own _ => false
  | .oel _ _ => false
  | .elp _ _ => false
  | .agg l => go l
  | .tup l => go l
  | .clo _ l => go l
  | _ => true
where go : List Pt → Bool
  | [] => true
  | p :: l => match noRow p with | true => go l | false => false
def hvCut (c : Cut) : Bool := (noRow.go (c.pts.map (·.2)) && noRow.go (c.bxs.flatMap (·.2))) && (c.rws.isEmpty && (nodupN (c.pts.map (·.1)) && nodupN (c.bxs.map (·.1))))
section
variable {W : Dyn T.ST → Prop} {E2 E3 : Env T} (hd : ∀ d v, Rep T E2.w E2.S d v → ∃ d', ChS T W d d' ∧ Rep T E3.w E3.S d' v) (hp : ∀ id off cv, RepF E2 (.ptr id 1 off) cv → RepF E3 (.ptr id 1 off) cv)
include hd hp
theorem put_ex : ∀ (n : Nat), (∀ (p : Pt) (cs : List (FV T)) (cv : Value), SizeOf.sizeOf p < n → noRow p = true → AllD cs → RepF E2 (putP p cs).1 cv → AllD (putP p cs).2 ∧ ∃ (pre : List (FV T)) (v' : FV T), ∀ r', CL W (putP p cs).2 r' → CL W cs (pre ++ r') ∧ putP p (pre ++ r') = (v', r') ∧ RepF E3 v' cv ∧ (cellOk (putP p cs).1 = true → cellOk v' = true)) ∧
    ∀ (l : List Pt) (cs : List (FV T)) (vs : List Value), SizeOf.sizeOf l < n → noRow.go l = true → AllD cs → RepL E2 (putPs l cs).1 vs → AllD (putPs l cs).2 ∧ ∃ (pre : List (FV T)) (vs' : List (FV T)), ∀ r', CL W (putPs l cs).2 r' → CL W cs (pre ++ r') ∧ putPs l (pre ++ r') = (vs', r') ∧ RepL E3 vs' vs ∧ ((∀ c ∈ (putPs l cs).1, cellOk c = true) → ∀ c ∈ vs', cellOk c = true) := by
  intro n
  induction n with
  | zero => exact ⟨fun p _ _ h => by omega, fun l _ _ h => by omega⟩
  | succ n ih =>
    have hone : ∀ (p : Pt) (cs : List (FV T)) (cv : Value), SizeOf.sizeOf p < n + 1 → noRow p = true → AllD cs → RepF E2 (putP p cs).1 cv → AllD (putP p cs).2 ∧ ∃ (pre : List (FV T)) (v' : FV T), ∀ r', CL W (putP p cs).2 r' → CL W cs (pre ++ r') ∧ putP p (pre ++ r') = (v', r') ∧ RepF E3 v' cv ∧ (cellOk (putP p cs).1 = true → cellOk v' = true) := by
      intro p cs cv hs hn ha h
      cases p with
      | one =>
        cases cs with
        | nil =>
          refine ⟨trivial, [], .non, fun r' k => ?_⟩
          cases r' with
          | nil => exact ⟨k, rfl, by rw [RepF]; trivial, fun h => h⟩
          | cons _ _ => exact k.elim
        | cons c cs =>
          obtain ⟨⟨d, rfl⟩, h2⟩ := ha
          have h : RepF E2 (.d d) cv := h
          rw [RepF] at h
          obtain ⟨d', k1, k2⟩ := hd d cv h
          exact ⟨h2, [.d d'], .d d', fun r' k => ⟨⟨⟨d, d', rfl, rfl, k1⟩, k⟩, rfl, by rw [RepF]; exact k2, fun _ => rfl⟩⟩
      | own id => cases hn
      | oel id off => cases hn
      | elp e off => cases hn
      | ptr id off => exact ⟨ha, [], .ptr id 1 off, fun r' k => ⟨k, rfl, hp _ _ _ h, fun _ => rfl⟩⟩
      | nil => exact ⟨ha, [], .nil, fun r' k => ⟨k, rfl, (by have h : RepF E2 .nil cv := h; rw [RepF] at h ⊢; exact h), fun _ => rfl⟩⟩
      | non => exact ⟨ha, [], .non, fun r' k => ⟨k, rfl, by rw [RepF]; trivial, fun h => h⟩⟩
      | agg l =>
        simp only [Pt.agg.sizeOf_spec] at hs
        have h : RepF E2 (.agg (putPs l cs).1) cv := h
        rw [RepF] at h
        obtain ⟨vs, rfl, h2⟩ := h
        obtain ⟨k0, pre, vs', k1⟩ := ih.2 l cs vs (by omega) (by rw [noRow] at hn; exact hn) ha h2
        refine ⟨k0, pre, .agg vs', fun r' k => ?_⟩
        obtain ⟨a1, a2, a3, _⟩ := k1 r' k
        exact ⟨a1, by rw [putP, a2], by rw [RepF]; exact ⟨vs, rfl, a3⟩, fun h => by cases h⟩
      | tup l =>
        simp only [Pt.tup.sizeOf_spec] at hs
        have h : RepF E2 (.tup (putPs l cs).1) cv := h
        rw [RepF] at h
        obtain ⟨vs, rfl, h2⟩ := h
        obtain ⟨k0, pre, vs', k1⟩ := ih.2 l cs vs (by omega) (by rw [noRow] at hn; exact hn) ha h2
        refine ⟨k0, pre, .tup vs', fun r' k => ?_⟩
        obtain ⟨a1, a2, a3, _⟩ := k1 r' k
        exact ⟨a1, by rw [putP, a2], by rw [RepF]; exact ⟨vs, rfl, a3⟩, fun h => by cases h⟩
      | clo f l =>
        simp only [Pt.clo.sizeOf_spec] at hs
        have h : RepF E2 (.clo f (putPs l cs).1) cv := h
        rw [RepF] at h
        obtain ⟨vs, rfl, h2⟩ := h
        obtain ⟨k0, pre, vs', k1⟩ := ih.2 l cs vs (by omega) (by rw [noRow] at hn; exact hn) ha h2
        refine ⟨k0, pre, .clo f vs', fun r' k => ?_⟩
        obtain ⟨a1, a2, a3, _⟩ := k1 r' k
        exact ⟨a1, by rw [putP, a2], by rw [RepF]; exact ⟨vs, rfl, a3⟩, fun _ => rfl⟩
    refine ⟨hone, fun l cs vs hs hn ha h => ?_⟩
    cases l with
    | nil =>
      have h : RepL E2 [] vs := h
      rw [RepL] at h
      subst h
      exact ⟨ha, [], [], fun r' k => ⟨k, rfl, by rw [RepL], fun _ c hc => by cases hc⟩⟩
    | cons p l =>
      simp only [List.cons.sizeOf_spec] at hs
      have h : RepL E2 ((putP p cs).1 :: (putPs l (putP p cs).2).1) vs := h
      rw [RepL] at h
      obtain ⟨v, r, rfl, h1, h2⟩ := h
      have hn2 : noRow p = true ∧ noRow.go l = true := by
        unfold noRow.go at hn
        split at hn
        · rename_i hc; exact ⟨hc, hn⟩
        · cases hn
      obtain ⟨k0, pre, v', k1⟩ := ih.1 p cs v (by omega) hn2.1 ha h1
      obtain ⟨k2, pre2, vs', k3⟩ := ih.2 l (putP p cs).2 r (by omega) hn2.2 k0 h2
      refine ⟨k2, pre ++ pre2, v' :: vs', fun r' k => ?_⟩
      obtain ⟨a1, a2, a3, a4⟩ := k3 r' k
      obtain ⟨b1, b2, b3, b4⟩ := k1 (pre2 ++ r') a1
      rw [List.append_assoc]
      refine ⟨b1, by rw [putPs, b2]; simp only; rw [a2], by rw [RepL]; exact ⟨v, r, rfl, b3, a3⟩, fun hc c hcm => ?_⟩
      have hc : ∀ c ∈ (putP p cs).1 :: (putPs l (putP p cs).2).1, cellOk c = true := hc
      rcases List.mem_cons.1 hcm with rfl | hcm
      · exact b4 (hc _ List.mem_cons_self)
      · exact a4 (fun c hm => hc c (List.mem_cons_of_mem _ hm)) c hcm
theorem putF_ex (tm : Nat → Value) : ∀ (l : List (Nat × Pt)) (cs : List (FV T)), noRow.go (l.map (·.2)) = true → AllD cs → (∀ q ∈ (putF' l cs).1, RepF E2 q.2 (tm q.1)) → AllD (putF' l cs).2 ∧ ∃ (pre : List (FV T)) (l' : List (Nat × FV T)), ∀ r', CL W (putF' l cs).2 r' → CL W cs (pre ++ r') ∧ putF' l (pre ++ r') = (l', r') ∧ ∀ q ∈ l', RepF E3 q.2 (tm q.1) := by
  intro l
  induction l with
  | nil => intro cs _ ha _; exact ⟨ha, [], [], fun r' k => ⟨k, rfl, fun q hq => by cases hq⟩⟩
  | cons q l ih =>
    obtain ⟨t, p⟩ := q
    intro cs hn ha h
    have hn2 : noRow p = true ∧ noRow.go (l.map (·.2)) = true := by
      rw [List.map_cons] at hn
      unfold noRow.go at hn
      split at hn
      · rename_i hc; exact ⟨hc, hn⟩
      · cases hn
    have h : ∀ q ∈ (t, (putP p cs).1) :: (putF' l (putP p cs).2).1, RepF E2 q.2 (tm q.1) := h
    obtain ⟨k0, pre, v', k1⟩ := (put_ex hd hp (SizeOf.sizeOf p + 1)).1 p cs (tm t) (Nat.lt_succ_self _) hn2.1 ha (h _ List.mem_cons_self)
    obtain ⟨k2, pre2, l', k3⟩ := ih (putP p cs).2 hn2.2 k0 (fun q hq => h q (List.mem_cons_of_mem _ hq))
    refine ⟨k2, pre ++ pre2, (t, v') :: l', fun r' k => ?_⟩
    obtain ⟨a1, a2, a3⟩ := k3 r' k
    obtain ⟨b1, b2, b3, _⟩ := k1 (pre2 ++ r') a1
    rw [List.append_assoc]
    refine ⟨b1, by rw [putF', b2]; simp only; rw [a2], fun q hq => ?_⟩
    rcases List.mem_cons.1 hq with rfl | hq
    · exact b3
    · exact a3 q hq
theorem putB_ex (tm : Nat → List Value) : ∀ (l : List (Nat × List Pt)) (cs : List (FV T)), noRow.go (l.flatMap (·.2)) = true → AllD cs → (∀ id vs, (id, Cont.box vs) ∈ (putB l cs).1 → RepL E2 vs (tm id) ∧ ∀ c ∈ vs, cellOk c = true) → AllD (putB l cs).2 ∧ ∃ (pre : List (FV T)) (l' : List (Nat × Cont T)), ∀ r', CL W (putB l cs).2 r' → CL W cs (pre ++ r') ∧ putB l (pre ++ r') = (l', r') ∧ (∀ id c, (id, c) ∈ l' → ∃ vs, c = Cont.box vs ∧ RepL E3 vs (tm id) ∧ ∀ c ∈ vs, cellOk c = true) := by
  intro l
  induction l with
  | nil => intro cs _ ha _; exact ⟨ha, [], [], fun r' k => ⟨k, rfl, fun id c hq => by cases hq⟩⟩
  | cons q l ih =>
    obtain ⟨id0, p⟩ := q
    intro cs hn ha h
    have goA : ∀ (a b : List Pt), noRow.go (a ++ b) = true → noRow.go a = true ∧ noRow.go b = true := by
      intro a
      induction a with
      | nil => intro b h; exact ⟨rfl, h⟩
      | cons x a iha =>
        intro b h
        have hgo : ∀ l, noRow.go (x :: l) = true → noRow x = true ∧ noRow.go l = true := by
          intro l h
          unfold noRow.go at h
          split at h
          · rename_i hx; exact ⟨hx, h⟩
          · cases h
        obtain ⟨h1, h2⟩ := hgo _ h
        obtain ⟨h3, h4⟩ := iha b h2
        refine ⟨?_, h4⟩
        show (match noRow x with | true => noRow.go a | false => false) = true
        rw [h1]
        exact h3
    obtain ⟨n1, n2⟩ := goA p (l.flatMap (·.2)) (by simpa using hn)
    have h : ∀ id vs, (id, Cont.box vs) ∈ (id0, Cont.box (putPs p cs).1) :: (putB l (putPs p cs).2).1 → RepL E2 vs (tm id) ∧ ∀ c ∈ vs, cellOk c = true := h
    obtain ⟨h1, h1c⟩ := h id0 _ List.mem_cons_self
    obtain ⟨k0, pre, vs', k1⟩ := (put_ex hd hp (SizeOf.sizeOf p + 1)).2 p cs (tm id0) (Nat.lt_succ_self _) n1 ha h1
    obtain ⟨k2, pre2, l', k3⟩ := ih (putPs p cs).2 n2 k0 (fun id vs hq => h id vs (List.mem_cons_of_mem _ hq))
    refine ⟨k2, pre ++ pre2, (id0, .box vs') :: l', fun r' k => ?_⟩
    obtain ⟨a1, a2, a3⟩ := k3 r' k
    obtain ⟨b1, b2, b3, b4⟩ := k1 (pre2 ++ r') a1
    rw [List.append_assoc]
    refine ⟨b1, by rw [putB, b2]; simp only; rw [a2], fun id c hq => ?_⟩
    rcases List.mem_cons.1 hq with hq | hq
    · obtain ⟨rfl, rfl⟩ := Prod.mk.inj hq
      exact ⟨vs', rfl, b3, b4 h1c⟩
    · exact a3 id c hq
end
theorem tup_mk {P : Program} (hT : TblOk P T) {W : Dyn T.ST → Prop} : ∀ (es : List E) (x : TupT T.ST es) (cs : List (FV T)), CL W (cellsT T es x) cs → ∃ y : TupT T.ST es, cellsT T es y = cs := by
  have one : ∀ (e : E) (x : Den T.ST e) (cs : List (FV T)), CL W ((cellsE T e x).map FV.d) cs → ∃ y : Den T.ST e, (cellsE T e y).map FV.d = cs := by
    intro e x cs h
    have key : ∀ (l : List (Dyn T.ST)) (cs : List (FV T)), (∀ d ∈ l, sk d d) → CL W (l.map FV.d) cs → ∃ l', cs = l'.map FV.d ∧ SK l' l := by
      intro l
      induction l with
      | nil =>
        intro cs _ h
        cases cs with
        | nil => exact ⟨[], rfl, SK.nil⟩
        | cons _ _ => exact h.elim
      | cons d l ih =>
        intro cs hk h
        cases cs with
        | nil => exact h.elim
        | cons c cs =>
          obtain ⟨⟨p, q, h1, rfl, h2⟩, h3⟩ := (h : (∃ p q, FV.d d = .d p ∧ c = .d q ∧ ChS T W p q) ∧ CL W (l.map FV.d) cs)
          obtain rfl := FV.d.inj h1
          obtain ⟨l', rfl, h4⟩ := ih cs (fun d hd => hk d (List.mem_cons_of_mem _ hd)) h3
          exact ⟨q :: l', rfl, SK.cons (sk_symm (sk_self_of h2.ch (hk d List.mem_cons_self))) h4⟩
    obtain ⟨l', rfl, h2⟩ := key _ cs (fun d hd => by
      obtain ⟨j, hj⟩ := List.mem_iff_getElem?.1 hd
      exact (cells_sk hT e x x).2 j d d hj hj) h
    obtain ⟨y, hy⟩ := cells_mk hT e x l' h2
    exact ⟨y, by rw [hy]⟩
  have split : ∀ (a b cs : List (FV T)), CL W (a ++ b) cs → ∃ c1 c2, cs = c1 ++ c2 ∧ CL W a c1 ∧ CL W b c2 := by
    intro a
    induction a with
    | nil => intro b cs h; exact ⟨[], cs, rfl, trivial, h⟩
    | cons x a ih =>
      intro b cs h
      cases cs with
      | nil => exact h.elim
      | cons c cs =>
        obtain ⟨c1, c2, rfl, h1, h2⟩ := ih b cs (h : _ ∧ CL W (a ++ b) cs).2
        exact ⟨c :: c1, c2, rfl, ⟨(h : _ ∧ CL W (a ++ b) _).1, h1⟩, h2⟩
  intro es
  induction es with
  | nil => intro x cs h; cases cs with | nil => exact ⟨(), rfl⟩ | cons _ _ => exact h.elim
  | cons e es ih =>
    intro x cs h
    cases es with
    | nil => exact one e x cs h
    | cons e2 es =>
      obtain ⟨c1, c2, rfl, h1, h2⟩ := split _ _ _ h
      obtain ⟨a, ha⟩ := one e x.1 c1 h1
      obtain ⟨b, hb⟩ := ih x.2 c2 h2
      exact ⟨(a, b), by rw [cellsT, ha, hb]⟩
theorem lookN_in {α : Type _} (z : α) : ∀ (l : List (Nat × α)) (t : Nat), lookN z l t = z ∨ (t, lookN z l t) ∈ l := by
  intro l
  induction l with
  | nil => intro t; exact .inl rfl
  | cons p l ih =>
    obtain ⟨i, v⟩ := p
    intro t
    unfold lookN
    split
    · rename_i hb; obtain rfl := beq_true hb; exact .inr List.mem_cons_self
    · exact (ih t).imp id (List.mem_cons_of_mem _)
theorem lookN_at {α : Type _} (z : α) : ∀ (l : List (Nat × α)), (l.map (·.1)).Nodup → ∀ p ∈ l, lookN z l p.1 = p.2 := by
  intro l
  induction l with
  | nil => intro _ p hp; cases hp
  | cons q l ih =>
    obtain ⟨i, v⟩ := q
    intro hn p hp
    rw [List.map_cons, List.nodup_cons] at hn
    unfold lookN
    rcases List.mem_cons.1 hp with rfl | hp
    · rw [show Nat.beq i i = true from Nat.beq_refl i]
    · rw [show Nat.beq p.1 i = false from by
        rw [Bool.eq_false_iff]
        intro h
        have := beq_true h
        exact hn.1 (this ▸ List.mem_map.2 ⟨p, hp, rfl⟩)]
      exact ih hn.2 p hp
end
end Go.Proofs.Ytejfjfhopapaaaa.PE
namespace Go.Proofs.Ytejfjfhopapaaaa.PE
noncomputable section
set_option linter.unusedVariables false
open Go Go.RowKit
variable {T : Tbl} {R : Type}
theorem canon_eq (c : Cut) (x : TupT T.ST c.es) (hr : c.rws = []) : canonC c x = canon (putF' c.pts (cellsT T c.es x)).1 (putB c.bxs (putF' c.pts (cellsT T c.es x)).2).1 := by
  unfold canonC
  rw [hr]
  simp [putR]
/-- The state behind a write: of what it was made of, cells may be others. -/
theorem chg_rel {P : Program} (hT : TblOk P T) {W : Dyn T.ST → Prop} {B : Base} {E2 : Env T} {a : Act} {N : Nat} {c : Cut} {x : TupT T.ST c.es} (hr : Rel B E2 (canonC c x).f a N) (hH : E2.H = (canonC c x).h) (hc : hvCut c = true) {w' : World} {S' : E → Nat → Prop}
    (hw : Wr T W E2.w w' E2.S S') (hsz : E2.w.heap.size ≤ w'.heap.size) (hsame : ∀ k, k < E2.w.heap.size → (∀ e, ¬ E2.S e k) → w'.heap[k]? = E2.w.heap[k]?) (hbase : ∀ k, k < B.w0.heap.size → ¬ B.M0 k → w'.heap[k]? = E2.w.heap[k]?)
    (hS' : ∀ e b, S' e b → E2.S e b ∨ (E2.w.heap.size ≤ b ∧ b < w'.heap.size)) (ho : w'.os = E2.w.os) (ht : w'.tape = E2.w.tape) (hu : w'.output = E2.w.output) :
    ∃ y, ChT T W c.es x y ∧ ∃ E' : Env T, E'.w = w' ∧ Rel B E' (canonC c y).f a N ∧ E'.H = (canonC c y).h := by
  unfold hvCut at hc
  simp only [Bool.and_eq_true, List.isEmpty_iff] at hc
  obtain ⟨⟨c1, c2⟩, c3, c4, c5⟩ := hc
  have n1 := nodupN_ok c4
  have n2 := nodupN_ok c5
  have hcan := canon_eq c x c3
  rw [hcan] at hr hH
  have frame : ∀ t, RepF E2 (lookN .non (putF' c.pts (cellsT T c.es x)).1 t) (a.tmps.getD t undef) := hr.frame
  have hHs : ∀ id, E2.H id = ⟨1, lookN .none (putB c.bxs (putF' c.pts (cellsT T c.es x)).2).1 id⟩ := fun id => by rw [hH]; rfl
  have idF : ∀ (l : List (Nat × Pt)) (cs : List (FV T)), (putF' l cs).1.map (·.1) = l.map (·.1) := by
    intro l
    induction l with
    | nil => intro cs; rfl
    | cons q l ih => intro cs; obtain ⟨t, p⟩ := q; show t :: (putF' l (putP p cs).2).1.map (·.1) = _; rw [ih]; rfl
  have idB := putB_ids c.bxs (putF' c.pts (cellsT T c.es x)).2
  -- the state that is looked for lies in the same slots
  have boxE : ∀ id vs, (id, Cont.box vs) ∈ (putB c.bxs (putF' c.pts (cellsT T c.es x)).2).1 → ∃ arr t, E2.w.heap[E2.η id]? = some (.cells arr t (0, 0)) ∧ RepL E2 vs arr.toList ∧ ∀ cc ∈ vs, cellOk cc = true := by
    intro id vs hm
    have hl := lookN_at .none _ (by rw [idB]; exact n2) _ hm
    have hsl := hr.inv.slot id
    unfold SlotOk at hsl
    rw [hHs] at hsl
    simp only at hl
    rw [hl] at hsl
    obtain ⟨k1, arr, t, k2, k3⟩ := hsl
    exact ⟨arr, t, k2, k3, k1⟩
  have boxI : ∀ id, id ∈ c.bxs.map (·.1) → Has E2 id := by
    intro id hid
    rw [← idB] at hid
    obtain ⟨⟨i, cc⟩, hm, rfl⟩ := List.mem_map.1 hid
    have hl := lookN_at .none _ (by rw [idB]; exact n2) _ hm
    simp only at hl
    have : ∀ (l : List (Nat × List Pt)) (cs : List (FV T)) q, q ∈ (putB l cs).1 → ∃ vs, q.2 = Cont.box vs := by
      intro l
      induction l with
      | nil => intro cs q hq; cases hq
      | cons p l ih =>
        intro cs q hq
        obtain ⟨j, pp⟩ := p
        rcases List.mem_cons.1 (hq : q ∈ (j, Cont.box (putPs pp cs).1) :: (putB l (putPs pp cs).2).1) with rfl | hq
        · exact ⟨_, rfl⟩
        · exact ih _ q hq
    obtain ⟨vs, hvs⟩ := this _ _ _ hm
    simp only at hvs
    subst hvs
    exact .inl ⟨vs, by rw [hHs, hl]⟩
  let arrOf : Nat → List Value := fun id => match E2.w.heap[E2.η id]? with | some (.cells arr _ _) => arr.toList | _ => []
  -- choose what the cells have become, once the new frame's form is known
  have main : ∀ (E3 : Env T), E3.w = w' → E3.S = S' → (∀ id off cv, RepF E2 (.ptr id 1 off) cv → RepF E3 (.ptr id 1 off) cv) → ∃ (cs' : List (FV T)) (l' : List (Nat × FV T)) (bl' : List (Nat × Cont T)), CL W (cellsT T c.es x) cs' ∧ (putF' c.pts cs').1 = l' ∧ (putB c.bxs (putF' c.pts cs').2).1 = bl' ∧
      (∀ q ∈ l', RepF E3 q.2 (a.tmps.getD q.1 undef)) ∧ (∀ id cc, (id, cc) ∈ bl' → ∃ vs, cc = Cont.box vs ∧ RepL E3 vs (arrOf id) ∧ ∀ c ∈ vs, cellOk c = true) := by
    intro E3 e1 e2 hp
    have hd : ∀ d v, Rep T E2.w E2.S d v → ∃ d', ChS T W d d' ∧ Rep T E3.w E3.S d' v := by
      intro d v ⟨m, h⟩
      rw [e1, e2]
      exact wr_rep hT hw m d v h
    obtain ⟨k0, pre, l', k1⟩ := putF_ex hd hp (fun t => a.tmps.getD t undef) c.pts (cellsT T c.es x) c1 (allD_cells _ _) (fun q hq => by
      have := frame q.1
      rw [lookN_at .non _ (by rw [idF]; exact n1) q hq] at this
      exact this)
    obtain ⟨j0, pre2, bl', j1⟩ := putB_ex hd hp arrOf c.bxs (putF' c.pts (cellsT T c.es x)).2 c2 k0 (fun id vs hm => by
      obtain ⟨arr, t, q1, q2, q3⟩ := boxE id vs hm
      refine ⟨?_, q3⟩
      show RepL E2 vs (match E2.w.heap[E2.η id]? with | some (.cells arr _ _) => arr.toList | _ => [])
      rw [q1]
      exact q2)
    obtain ⟨a1, a2, a3⟩ := j1 _ (CL.refl j0)
    obtain ⟨b1, b2, b3⟩ := k1 _ a1
    exact ⟨_, l', bl', b1, by rw [b2], by rw [b2]; simp only; rw [a2], b3, a3⟩
  -- first the form of the slots
  have form : ∀ cs', CL W (cellsT T c.es x) cs' → ∃ y, cellsT T c.es y = cs' := fun cs' h => tup_mk hT c.es x cs' h
  -- slots of any such y have the same boxes
  have same : ∀ (y : TupT T.ST c.es) id, (∃ vs, lookN Cont.none (putB c.bxs (putF' c.pts (cellsT T c.es y)).2).1 id = .box vs) ↔ ∃ vs, lookN Cont.none (putB c.bxs (putF' c.pts (cellsT T c.es x)).2).1 id = .box vs := by
    have key : ∀ (l : List (Nat × List Pt)) (cs cs2 : List (FV T)) id, (∃ vs, lookN Cont.none (putB l cs).1 id = .box vs) → ∃ vs, lookN Cont.none (putB l cs2).1 id = .box vs := by
      intro l
      induction l with
      | nil => intro cs cs2 id ⟨vs, h⟩; cases h
      | cons q l ih =>
        obtain ⟨i, p⟩ := q
        intro cs cs2 id h
        have h : ∃ vs, lookN Cont.none ((i, Cont.box (putPs p cs).1) :: (putB l (putPs p cs).2).1) id = .box vs := h
        show ∃ vs, lookN Cont.none ((i, Cont.box (putPs p cs2).1) :: (putB l (putPs p cs2).2).1) id = .box vs
        unfold lookN at h ⊢
        split
        · exact ⟨_, rfl⟩
        · rename_i hb
          rw [hb] at h
          exact ih _ _ id h
    exact fun y id => ⟨key _ _ _ id, key _ _ _ id⟩
  -- a frame whose boxes are those of x, with new contents
  obtain ⟨cs', l', bl', h1, h2, h3, h4, h5⟩ := main ⟨w', S', E2.η, E2.κ, E2.H⟩ rfl rfl (fun id off cv h => by
    rw [RepF] at h ⊢
    exact h)
  obtain ⟨y, hy⟩ := form cs' h1
  have hcy := canon_eq c y c3
  rw [hy, h2, h3] at hcy
  have sameY := same y
  rw [hy, h3] at sameY
  let E' : Env T := ⟨w', S', E2.η, E2.κ, (canonC c y).h⟩
  have hH' : ∀ id, E'.H id = ⟨1, lookN .none bl' id⟩ := fun id => by show (canonC c y).h id = _; rw [hcy]; rfl
  have ptr : ∀ id off cv, RepF (⟨w', S', E2.η, E2.κ, E2.H⟩ : Env T) (.ptr id 1 off) cv → RepF E' (.ptr id 1 off) cv := by
    intro id off cv h
    rw [RepF] at h ⊢
    refine ⟨⟨by rw [hH']; exact Nat.le_refl _, h.1.2⟩, fun _ => ?_⟩
    obtain ⟨cs, hc, hv⟩ := h.2 (by show 1 = (E2.H id).g; rw [hHs])
    have hc : (E2.H id).c = .box cs := hc
    rw [hHs] at hc
    obtain ⟨vs, hvs⟩ := (sameY id).2 ⟨cs, hc⟩
    exact ⟨vs, by rw [hH']; exact hvs, hv⟩
  -- values that name slots say the same in either
  have carry : ∀ (n : Nat), (∀ (p : Pt) (cs : List (FV T)) (cv : Value), SizeOf.sizeOf p < n → noRow p = true → AllD cs → RepF (⟨w', S', E2.η, E2.κ, E2.H⟩ : Env T) (putP p cs).1 cv → RepF E' (putP p cs).1 cv ∧ AllD (putP p cs).2) ∧
      ∀ (l : List Pt) (cs : List (FV T)) (vs : List Value), SizeOf.sizeOf l < n → noRow.go l = true → AllD cs → RepL (⟨w', S', E2.η, E2.κ, E2.H⟩ : Env T) (putPs l cs).1 vs → RepL E' (putPs l cs).1 vs ∧ AllD (putPs l cs).2 := by
    intro n
    induction n with
    | zero => exact ⟨fun p _ _ h => by omega, fun l _ _ h => by omega⟩
    | succ n ih =>
      refine ⟨fun p cs cv hs hn ha h => ?_, fun l cs vs hs hn ha h => ?_⟩
      · cases p with
        | one =>
          cases cs with
          | nil => exact ⟨by show RepF E' .non cv; rw [RepF]; trivial, trivial⟩
          | cons cc cs =>
            obtain ⟨⟨d, rfl⟩, h2⟩ := ha
            have h : RepF (⟨w', S', E2.η, E2.κ, E2.H⟩ : Env T) (.d d) cv := h
            refine ⟨?_, h2⟩
            show RepF E' (.d d) cv
            rw [RepF] at h ⊢
            exact h
        | own id => cases hn
        | oel id off => cases hn
        | elp e off => cases hn
        | ptr id off => exact ⟨ptr _ _ _ h, ha⟩
        | nil => exact ⟨by have h : RepF (⟨w', S', E2.η, E2.κ, E2.H⟩ : Env T) .nil cv := h; show RepF E' .nil cv; rw [RepF] at h ⊢; exact h, ha⟩
        | non => exact ⟨by show RepF E' .non cv; rw [RepF]; trivial, ha⟩
        | agg l =>
          simp only [Pt.agg.sizeOf_spec] at hs
          have h : RepF (⟨w', S', E2.η, E2.κ, E2.H⟩ : Env T) (.agg (putPs l cs).1) cv := h
          rw [RepF] at h
          obtain ⟨vs, rfl, h2⟩ := h
          obtain ⟨k1, k2⟩ := ih.2 l cs vs (by omega) (by rw [noRow] at hn; exact hn) ha h2
          exact ⟨by show RepF E' (.agg (putPs l cs).1) _; rw [RepF]; exact ⟨vs, rfl, k1⟩, k2⟩
        | tup l =>
          simp only [Pt.tup.sizeOf_spec] at hs
          have h : RepF (⟨w', S', E2.η, E2.κ, E2.H⟩ : Env T) (.tup (putPs l cs).1) cv := h
          rw [RepF] at h
          obtain ⟨vs, rfl, h2⟩ := h
          obtain ⟨k1, k2⟩ := ih.2 l cs vs (by omega) (by rw [noRow] at hn; exact hn) ha h2
          exact ⟨by show RepF E' (.tup (putPs l cs).1) _; rw [RepF]; exact ⟨vs, rfl, k1⟩, k2⟩
        | clo f l =>
          simp only [Pt.clo.sizeOf_spec] at hs
          have h : RepF (⟨w', S', E2.η, E2.κ, E2.H⟩ : Env T) (.clo f (putPs l cs).1) cv := h
          rw [RepF] at h
          obtain ⟨vs, rfl, h2⟩ := h
          obtain ⟨k1, k2⟩ := ih.2 l cs vs (by omega) (by rw [noRow] at hn; exact hn) ha h2
          exact ⟨by show RepF E' (.clo f (putPs l cs).1) _; rw [RepF]; exact ⟨vs, rfl, k1⟩, k2⟩
      · cases l with
        | nil => exact ⟨by have h : RepL (⟨w', S', E2.η, E2.κ, E2.H⟩ : Env T) [] vs := h; show RepL E' [] vs; rw [RepL] at h ⊢; exact h, ha⟩
        | cons p l =>
          simp only [List.cons.sizeOf_spec] at hs
          have h : RepL (⟨w', S', E2.η, E2.κ, E2.H⟩ : Env T) ((putP p cs).1 :: (putPs l (putP p cs).2).1) vs := h
          rw [RepL] at h
          obtain ⟨v, r, rfl, h1, h2⟩ := h
          have hn2 : noRow p = true ∧ noRow.go l = true := by
            unfold noRow.go at hn
            split at hn
            · rename_i hc; exact ⟨hc, hn⟩
            · cases hn
          obtain ⟨k1, k2⟩ := ih.1 p cs v (by omega) hn2.1 ha h1
          obtain ⟨k3, k4⟩ := ih.2 l (putP p cs).2 r (by omega) hn2.2 k2 h2
          exact ⟨by show RepL E' ((putP p cs).1 :: (putPs l (putP p cs).2).1) _; rw [RepL]; exact ⟨v, r, rfl, k1, k3⟩, k4⟩
  have allD' : AllD cs' := by rw [← hy]; exact allD_cells _ _
  have carryF : ∀ (l : List (Nat × Pt)) (cs : List (FV T)), noRow.go (l.map (·.2)) = true → AllD cs → (∀ q ∈ (putF' l cs).1, RepF (⟨w', S', E2.η, E2.κ, E2.H⟩ : Env T) q.2 (a.tmps.getD q.1 undef)) → (∀ q ∈ (putF' l cs).1, RepF E' q.2 (a.tmps.getD q.1 undef)) ∧ AllD (putF' l cs).2 := by
    intro l
    induction l with
    | nil => intro cs _ ha _; exact ⟨(fun q hq => by cases hq), ha⟩
    | cons q l ih =>
      obtain ⟨t, p⟩ := q
      intro cs hn ha h
      have hn2 : noRow p = true ∧ noRow.go (l.map (·.2)) = true := by
        rw [List.map_cons] at hn
        unfold noRow.go at hn
        split at hn
        · rename_i hc; exact ⟨hc, hn⟩
        · cases hn
      have h : ∀ q ∈ (t, (putP p cs).1) :: (putF' l (putP p cs).2).1, RepF (⟨w', S', E2.η, E2.κ, E2.H⟩ : Env T) q.2 (a.tmps.getD q.1 undef) := h
      obtain ⟨k1, k2⟩ := (carry (SizeOf.sizeOf p + 1)).1 p cs _ (Nat.lt_succ_self _) hn2.1 ha (h _ List.mem_cons_self)
      obtain ⟨k3, k4⟩ := ih (putP p cs).2 hn2.2 k2 (fun q hq => h q (List.mem_cons_of_mem _ hq))
      refine ⟨fun q hq => ?_, k4⟩
      rcases List.mem_cons.1 (hq : q ∈ (t, (putP p cs).1) :: (putF' l (putP p cs).2).1) with rfl | hq
      · exact k1
      · exact k3 q hq
  have goA : ∀ (a b : List Pt), noRow.go (a ++ b) = true → noRow.go a = true ∧ noRow.go b = true := by
    intro a
    induction a with
    | nil => intro b h; exact ⟨rfl, h⟩
    | cons x a iha =>
      intro b h
      have hgo : ∀ l, noRow.go (x :: l) = true → noRow x = true ∧ noRow.go l = true := by
        intro l h
        unfold noRow.go at h
        split at h
        · rename_i hx; exact ⟨hx, h⟩
        · cases h
      obtain ⟨h1, h2⟩ := hgo _ h
      obtain ⟨h3, h4⟩ := iha b h2
      refine ⟨?_, h4⟩
      show (match noRow x with | true => noRow.go a | false => false) = true
      rw [h1]
      exact h3
  have carryB : ∀ (l : List (Nat × List Pt)) (cs : List (FV T)), noRow.go (l.flatMap (·.2)) = true → AllD cs → (∀ id cc, (id, cc) ∈ (putB l cs).1 → ∃ vs, cc = Cont.box vs ∧ RepL (⟨w', S', E2.η, E2.κ, E2.H⟩ : Env T) vs (arrOf id) ∧ ∀ c ∈ vs, cellOk c = true) → ∀ id cc, (id, cc) ∈ (putB l cs).1 → ∃ vs, cc = Cont.box vs ∧ RepL E' vs (arrOf id) ∧ ∀ c ∈ vs, cellOk c = true := by
    intro l
    induction l with
    | nil => intro cs _ _ _ id cc hq; cases hq
    | cons q l ih =>
      obtain ⟨id0, p⟩ := q
      intro cs hn ha h id cc hq
      obtain ⟨m1, m2⟩ := goA p (l.flatMap (·.2)) (by simpa using hn)
      have h : ∀ id cc, (id, cc) ∈ (id0, Cont.box (putPs p cs).1) :: (putB l (putPs p cs).2).1 → ∃ vs, cc = Cont.box vs ∧ RepL (⟨w', S', E2.η, E2.κ, E2.H⟩ : Env T) vs (arrOf id) ∧ ∀ c ∈ vs, cellOk c = true := h
      obtain ⟨vs0, e0, g1, g2⟩ := h id0 _ List.mem_cons_self
      obtain rfl := Cont.box.inj e0
      obtain ⟨k1, k2⟩ := (carry (SizeOf.sizeOf p + 1)).2 p cs _ (Nat.lt_succ_self _) m1 ha g1
      rcases List.mem_cons.1 (hq : (id, cc) ∈ (id0, Cont.box (putPs p cs).1) :: (putB l (putPs p cs).2).1) with hq | hq
      · obtain ⟨rfl, rfl⟩ := Prod.mk.inj hq
        exact ⟨_, rfl, k1, g2⟩
      · exact ih _ m2 k2 (fun i c' hm => h i c' (List.mem_cons_of_mem _ hm)) id cc hq
  have hF := carryF c.pts cs' c1 allD' (by rw [h2]; exact h4)
  have hB := carryB c.bxs (putF' c.pts cs').2 c2 hF.2 (by rw [h3]; exact h5)
  rw [h2] at hF
  rw [h3] at hB
  have hHas : ∀ id, Has E' id → Has E2 id := by
    rintro id (⟨cs, h⟩ | ⟨e, xs, h, _⟩)
    · rw [hH'] at h
      obtain ⟨vs, hvs⟩ := (sameY id).1 ⟨cs, h⟩
      exact .inl ⟨vs, by rw [hHs]; exact hvs⟩
    · rw [hH'] at h
      rcases lookN_in Cont.none bl' id with h0 | h0
      · have h : lookN Cont.none bl' id = .row e xs := h
        rw [h0] at h; cases h
      · obtain ⟨vs, hvs, _⟩ := hB _ _ h0
        have h : lookN Cont.none bl' id = .row e xs := h
        rw [hvs] at h; cases h
  have hblk : ∀ id, Has E2 id → w'.heap[E2.η id]? = E2.w.heap[E2.η id]? := fun id h => hsame _ (hr.inv.own id h).2.1 (hr.inv.own id h).1
  have norow : ∀ id e xs, (E'.H id).c ≠ .row e xs := by
    intro id e xs h
    rw [hH'] at h
    have h : lookN Cont.none bl' id = .row e xs := h
    rcases lookN_in Cont.none bl' id with h0 | h0
    · rw [h0] at h; cases h
    · obtain ⟨vs, hvs, _⟩ := hB _ _ h0
      rw [hvs] at h; cases h
  refine ⟨y, by unfold ChT; rw [hy]; exact h1, E', rfl, ⟨⟨fun id => ?_, fun id h => ?_, fun i j hi hj he => hr.inv.inj i j (hHas i hi) (hHas j hj) he, fun id e xs h => absurd h (norow id e xs), fun e b hb => ?_, fun e b hb => hw.sub e b (hr.inv.s0 e b hb), fun e b hb hlt => ?_, ho.trans hr.inv.os, ht.trans hr.inv.tape, hu.trans hr.inv.output, Nat.le_trans hr.inv.size hsz, fun k hk hm => (hbase k hk hm).trans (hr.inv.blk k hk hm), fun id cs hid hcs => ?_, fun id e xs h => absurd h (norow id e xs)⟩, hr.size, fun t => ?_, hr.defers⟩, rfl⟩
  · unfold SlotOk
    rw [hH']
    show match lookN Cont.none bl' id with | .none => _ | .box cs => _ | .row e xs => _ | .frz e xs => _
    rcases lookN_in Cont.none bl' id with h0 | h0
    · rw [h0]; trivial
    · obtain ⟨vs, hvs, g1, g2⟩ := hB _ _ h0
      rw [hvs]
      have hx : Has E2 id := hHas id (.inl ⟨vs, by rw [hH']; exact hvs⟩)
      have hb2 : ∃ vs2, lookN Cont.none (putB c.bxs (putF' c.pts (cellsT T c.es x)).2).1 id = .box vs2 := (sameY id).1 ⟨vs, hvs⟩
      obtain ⟨vs2, hvs2⟩ := hb2
      rcases lookN_in Cont.none (putB c.bxs (putF' c.pts (cellsT T c.es x)).2).1 id with q0 | q0
      · rw [hvs2] at q0; cases q0
      · rw [hvs2] at q0
        obtain ⟨arr, t, q1, _, _⟩ := boxE id vs2 q0
        refine ⟨g2, arr, t, (hblk id hx).trans q1, ?_⟩
        have : arrOf id = arr.toList := by
          show (match E2.w.heap[E2.η id]? with | some (.cells arr _ _) => arr.toList | _ => []) = _
          rw [q1]
        rw [this] at g1
        exact g1
  · have h2 := hHas id h
    have := hr.inv.own id h2
    refine ⟨fun e hs => ?_, Nat.lt_of_lt_of_le this.2.1 hsz, this.2.2⟩
    rcases hS' e _ hs with h3 | h3
    · exact this.1 e h3
    · exact absurd this.2.1 (Nat.not_lt.2 h3.1)
  · rcases hS' e b hb with h3 | h3
    · exact Nat.lt_of_lt_of_le (hr.inv.slt e b h3) hsz
    · exact h3.2
  · rcases hS' e b hb with h3 | h3
    · exact hr.inv.s1 e b h3 hlt
    · have := hr.inv.size; omega
  · rw [hH'] at hcs
    obtain ⟨vs, hvs⟩ := (sameY id).1 ⟨cs, hcs⟩
    exact hr.inv.fxd id vs hid (by rw [hHs]; exact hvs)
  · show RepF E' ((canonC c y).f t) _
    rw [hcy]
    show RepF E' (lookN .non l' t) _
    rcases lookN_in .non l' t with h0 | h0
    · rw [h0, RepF]; trivial
    · exact hF.1 _ h0
end
end Go.Proofs.Ytejfjfhopapaaaa.PE
namespace Go.Proofs.Ytejfjfhopapaaaa.PE
noncomputable section
set_option linter.unusedVariables false
open Go Go.RowKit
variable {T : Tbl} {R : Type}
theorem relB_spec {Y : Type} {P : Y → Prop} {K : Y → Option R} {r : R} (h : relB P K = some r) : ∀ y, P y → K y = some r := by
  unfold relB at h
  split at h
  · rename_i hx
    have := hx.choose_spec
    rw [Option.some.inj h] at this
    exact this
  · cases h
def intAt (T : Tbl) (e : E) (off : Nat) (k : IntKind) : Bool := match (cellsE T e (dft T e))[off]? with | some (.int k' _) => kindEq k k' | _ => false
theorem intAt_ok {P : Program} (hT : TblOk P T) {e : E} {off : Nat} {k : IntKind} (h : intAt T e off k = true) (x : Den T.ST e) : ∃ m, (cellsE T e x)[off]? = some (.int k m) := by
  unfold intAt at h
  split at h
  · rename_i k' m hm
    have hk : k = k' := of_decide_eq_true h
    subst hk
    have hs := cells_sk hT e x (dft T e)
    have hlt : off < (cellsE T e x).length := by
      rw [hs.1]
      exact (List.getElem?_eq_some_iff.1 hm).1
    have h1 := hs.2 off _ _ (List.getElem?_eq_getElem hlt) hm
    rw [List.getElem?_eq_getElem hlt]
    cases hc : (cellsE T e x)[off] with
    | int k2 n => rw [hc] at h1; obtain rfl := (h1 : k2 = k); exact ⟨n, rfl⟩
    | _ => rw [hc] at h1; exact h1.elim
  · cases h
/-- A number is stored where others read: what they read then is told by a relation. -/
def hvInt (T : Tbl) (sites : List (Nat × Cut)) (okc : E → Bool) (R : Type) (N : Nat) (o : Oper) (s : St T) : Option ((St T → Option R) → Option R) := match o.op, o.dst with
  | .store t (.tmp ta) xo, none => match lookO sites ta with
    | some c => match s.f ta, ev s xo with
      | .elp e xs i off, .d (.int k n) => match hvCut c && (okc e && (T.str e && (Nat.beq (T.lay t) 1 && intAt T e off k))) with
        | true => some fun K => match cutS c s with | some x => relB (fun y => ChT T (fun d => d = .int k n) c.es x y) (fun y => K (canonC c y)) | none => none
        | false => none
      | _, _ => none
    | none => none
  | _, _ => none
def hvSite (sites : List (Nat × Cut)) (o : Oper) : Bool := match o.op with | .store _ (.tmp ta) _ => (match lookO sites ta with | some _ => true | none => false) | _ => false
/-- The caller has no row of these kinds that is read. -/
def Nar (okc : E → Bool) (B : Base) : Prop := ∀ e b, okc e = true → ¬ B.S0 e b
@[reducible] def hvsInt (T : Tbl) (sites : List (Nat × Cut)) (okc : E → Bool) : Hvs T := ⟨hvInt T sites okc, hvSite sites, Nar okc⟩
theorem hvInt_ok {P : Program} (hT : TblOk P T) (sites : List (Nat × Cut)) (okc : E → Bool) : HvOk P T (hvsInt T sites okc) := by
  intro R N o s G hG K r hK B hB E a hr hH next Q k
  have hG : hvInt T sites okc R N o s = some G := hG
  unfold hvInt at hG
  split at hG
  rotate_left
  · cases hG
  rename_i t ta xo hop hdst
  split at hG
  rotate_left
  · cases hG
  rename_i c hsite
  split at hG
  rotate_left
  · cases hG
  rename_i e xs i off kk n hta hxo
  split at hG
  rotate_left
  · cases hG
  rename_i hchk
  obtain rfl := Option.some.inj hG
  simp only [Bool.and_eq_true] at hchk
  obtain ⟨q1, q2, q3, q4, q5⟩ := hchk
  split at hK
  rotate_left
  · cases hK
  rename_i x hx
  have hK' := relB_spec hK
  -- where the address leads
  have fa := hr.frame ta
  rw [hta, RepF] at fa
  obtain ⟨b, p, hav, ⟨hS, hpl⟩, i0, i1, hcell⟩ := fa
  have fx := ev_rep (E := E) (s := s) (a := a) xo (fun t _ => hr.frame t)
  rw [hxo, RepF] at fx
  have hxv := rep_int.1 fx
  obtain ⟨m, hm⟩ := intAt_ok hT q5 (rdE T e xs i)
  obtain ⟨cv, hcv, hrep⟩ := hcell off _ hm
  have hcv' := rep_int.1 hrep
  subst hcv'
  obtain ⟨arr, tt, harr⟩ := hpl q3
  have hcell2 : arr[p + off]? = some (.int kk m) := by
    have := hcv
    simp only [World.cell?, harr] at this
    exact this
  have hlt : p + off < arr.size := (Array.getElem?_eq_some_iff.1 hcell2).1
  obtain ⟨_, _, _, inf, hinf, hisz⟩ := hT.lay1 t (beq_true q4)
  have hrun := store_run (P := P) (t := t) ⟨inf, hinf, hisz⟩ (w := E.w) (g := b) (p := p + off) harr (cv := .int kk n) rfl (fun u hu => by
    have : u = .int kk n := by simpa [Value.cells] using hu
    rw [this]; rfl) (by simp [Value.cells]; omega)
  generalize hrow : (arr.toList.take (p + off) ++ (Value.int kk n).cells.toList ++ arr.toList.drop (p + off + (Value.int kk n).cells.toList.length)).toArray = row at hrun
  have hget : ∀ q, row[q]? = if q = p + off then some (.int kk n) else arr[q]? := by
    intro q
    rw [← hrow, List.getElem?_toArray, splice_get _ _ _ _ (by simp [Value.cells]; omega)]
    have hl : (Value.int kk n).cells.toList = [.int kk n] := rfl
    rw [hl]
    simp only [List.length_singleton, Array.getElem?_toList]
    by_cases h1 : q < p + off
    · rw [if_pos h1, if_neg (by omega)]
    · rw [if_neg h1]
      by_cases h2 : q < p + off + 1
      · rw [if_pos h2, if_pos (by omega)]
        have : q - (p + off) = 0 := by omega
        rw [this]; rfl
      · rw [if_neg h2, if_neg (by omega)]
  obtain ⟨E2, w2, r2, H2, s2⟩ := cut_okS hT hr hH hx
  have hheap : (E.w.setRow b row).heap[b]? = some (.cells row tt (0, 0)) := setRow_heap _ _ _ _ _ _ harr
  have hoth : ∀ k, k ≠ b → (E.w.setRow b row).heap[k]? = E.w.heap[k]? := fun k hk => setRow_other _ _ _ _ hk
  have hsz : (E.w.setRow b row).heap.size = E.w.heap.size := by simp [World.setRow]
  have W : Wr T (fun d => d = .int kk n) E2.w (E.w.setRow b row) E2.S E2.S := by
    refine ⟨fun _ _ h => h, fun e' b' _ hh => ?_, fun e' b' _ o' v hv => ?_⟩
    · by_cases hb : b' = b
      · subst hb; exact ⟨row, tt, hheap⟩
      · rw [hoth b' hb, ← w2]; exact hh
    · by_cases hb : b' = b
      · subst hb
        rw [w2] at hv
        simp only [World.cell?, harr] at hv
        have hv : arr[o']? = some v := hv
        have hnew : (E.w.setRow b' row).cell? ⟨b', o', none⟩ = row[o']? := by simp only [World.cell?, hheap]; rfl
        rw [hnew, hget]
        by_cases ho' : o' = p + off
        · subst ho'
          rw [if_pos rfl]
          rw [hcell2] at hv
          obtain rfl := Option.some.inj hv
          refine .inr ⟨.int kk n, rfl, fun y hy => ?_, fun d _ hd => ?_⟩
          · cases y with
            | int k2 z =>
              obtain ⟨z', hz⟩ := hy
              injection hz with hz1 hz2
              subst hz1
              exact ⟨n, rfl⟩
            | bool b => obtain ⟨_, h⟩ := hy; cases h
            | str b => obtain ⟨_, h⟩ := hy; cases h
            | lst e l => obtain ⟨_, _, _, h⟩ := hy; cases h
            | nil => obtain ⟨_, _, _, h⟩ := hy; cases h
          · refine ⟨.int kk n, ?_, rfl, rep_int.2 rfl, trivial⟩
            cases d with
            | int k2 z =>
              have := rep_int.1 hd
              injection this with h1 h2
              subst h1
              exact rfl
            | bool b => have := rep_bool.1 hd; cases this
            | str b => have := rep_str.1 hd; cases this
            | lst e l => obtain ⟨_, _, h, _⟩ := rep_lst hd; cases h
            | nil => obtain ⟨_, h⟩ := rep_nil.1 hd; cases h
        · rw [if_neg ho']
          exact .inl hv
      · left
        rw [← hv, w2]
        simp only [World.cell?]
        rw [hoth b' hb]
  obtain ⟨y, hy, E', e1, e2, e3⟩ := chg_rel hT r2 H2 q1 W (by rw [w2, hsz]; exact Nat.le_refl _) (fun k _ hk => by
      rw [w2]
      refine hoth k ?_
      rintro rfl
      exact hk e (s2 e _ hS)) (fun k hk hm => by
      rw [w2]
      refine hoth k ?_
      rintro rfl
      rcases hr.inv.s1 e _ hS hk with h | h
      · exact hB e _ q2 h
      · exact hm h) (fun e' b' h => .inl h) (by rw [w2]; rfl) (by rw [w2]; rfl) (by rw [w2]; rfl)
  have hnext := k _ E' a (hK' y hy) e2 e3
  rw [e1] at hnext
  refine wp_skip' (w' := E.w.setRow b row) ?_ (by rw [hdst]; exact hnext)
  have hea : a.eval (.tmp ta) = a.tmps.getD ta undef := rfl
  simp only [execOp, hop]
  rw [Sem.run_bind, hea, hav, hxv, hrun]
  rfl
/-- A function that writes where it reads: seen from without. -/
def Ent3Nar (P : Program) (T : Tbl) (okc : E → Bool) (e : Ent3 T) : Prop := Enters P e.e.n ∧ ∀ (R : Type) x (K : TupT T.ST e.e.pout.es → Option R) r, e.G R x K = some r → ∀ (B : Base), Nar okc B → ∀ (E : Env T) (cargs : List Value), InvE B E → E.H = (canonC e.e.pin x).h → (∀ t, RepF E ((canonC e.e.pin x).f t) (cargs.toArray.getD t undef)) → cargs.length = e.e.na →
  Calls P e.e.n cargs.toArray E.w (fun en w' => ∃ y, K y = some r ∧ ∃ rv E' v, resO (canonC e.e.pout y) e.e.rts = some rv ∧ en = .returned v ∧ E'.w = w' ∧ InvE B E' ∧ E'.H = (canonC e.e.pout y).h ∧ RepF E' rv v)
end
end Go.Proofs.Ytejfjfhopapaaaa.PE
namespace Go.Proofs.Ytejfjfhopapaaaa.PE
noncomputable section
set_option linter.unusedVariables false
open Go Go.RowKit
variable {T : Tbl} {R : Type}
def flatL_ : List (Dyn T.ST) → Bool
  | [] => true
  | .lst _ _ :: _ => false
  | .nil :: _ => false
  | _ :: l => flatL_ l
def flatE (T : Tbl) (e : E) : Bool := flatL_ (cellsE T e (dft T e))
def narE (T : Tbl) (okc : E → Bool) : E → Bool
  | .lst e => !okc e && flatE T e
  | .st s => flatL_ (T.cells s (T.zero s))
  | _ => true
/-- What is handed in leads to nothing that may be written. -/
def narIn (T : Tbl) (okc : E → Bool) (c : Cut) : Bool := c.es.all (narE T okc) && (c.rws.isEmpty && (nodupN (c.bxs.map (·.1)) && (noRow.go (c.pts.map (·.2)) && noRow.go (c.bxs.flatMap (·.2)))))
def NarD (T : Tbl) (okc : E → Bool) : Dyn T.ST → Prop
  | .lst e _ => okc e = false ∧ flatE T e = true
  | _ => True
theorem flat_no {l : List (Dyn T.ST)} (h : flatL_ l = true) : ∀ d ∈ l, (∀ e xs, d ≠ .lst e xs) ∧ d ≠ .nil := by
  induction l with
  | nil => intro d hd; cases hd
  | cons a l ih =>
    intro d hd
    cases a with
    | lst e xs => cases h
    | nil => cases h
    | _ =>
      rcases List.mem_cons.1 hd with rfl | hd
      · exact ⟨(fun _ _ h => by cases h), (fun h => by cases h)⟩
      · exact ih h d hd
theorem flat_all {P : Program} (hT : TblOk P T) {e : E} (h : flatE T e = true) (x : Den T.ST e) (j : Nat) (y : Dyn T.ST) (hj : (cellsE T e x)[j]? = some y) : ∀ e' xs, y ≠ .lst e' xs := by
  intro e' xs hy
  have hs := cells_sk hT e x (dft T e)
  have hlt : j < (cellsE T e (dft T e)).length := by rw [← hs.1]; exact (List.getElem?_eq_some_iff.1 hj).1
  have h1 := hs.2 j _ _ hj (List.getElem?_eq_getElem hlt)
  have h2 := (flat_no h _ (List.getElem_mem hlt)).1
  subst hy
  cases hc : (cellsE T e (dft T e))[j] with
  | lst e2 xs2 => exact h2 e2 xs2 hc
  | _ => rw [hc] at h1; exact h1.elim
theorem rep_nar {P : Program} (hT : TblOk P T) {okc : E → Bool} {w : World} {S : E → Nat → Prop} {d : Dyn T.ST} {v : Value} (hn : NarD T okc d) (h : Rep T w S d v) : Rep T w (fun e b => okc e = false ∧ S e b) d v := by
  cases d with
  | int k n => exact rep_int.2 (rep_int.1 h)
  | bool b => exact rep_bool.2 (rep_bool.1 h)
  | str b => exact rep_str.2 (rep_str.1 h)
  | nil => exact rep_nil.2 (rep_nil.1 h)
  | lst e xs =>
    obtain ⟨h1, h2⟩ := hn
    obtain ⟨A, c, rfl, k1, k2, k3⟩ := rep_lst h
    refine rep_lst_mk k1 (fun hs hc => ?_) fun hx => ?_
    · obtain ⟨b, o, g1, g2, g3, g4⟩ := k2 hs hc
      exact ⟨b, o, g1, ⟨h1, g2⟩, g3, g4⟩
    · obtain ⟨b, o, g1, g2, g3, g4⟩ := k3 hx
      refine ⟨b, o, g1, ⟨h1, g2⟩, fun i x hi j y hj => ?_, g4⟩
      obtain ⟨cv, f1, f2⟩ := g3 i x hi j y hj
      refine ⟨cv, f1, ?_⟩
      cases y with
      | int k n => exact rep_int.2 (rep_int.1 f2)
      | bool b => exact rep_bool.2 (rep_bool.1 f2)
      | str b => exact rep_str.2 (rep_str.1 f2)
      | nil => exact rep_nil.2 (rep_nil.1 f2)
      | lst e' ys => exact absurd rfl (flat_all hT h2 x j _ hj e' ys)
mutual
def NarF (T : Tbl) (okc : E → Bool) : FV T → Prop
  | .d x => NarD T okc x
  | .elp _ _ _ _ => False
  | .agg cs => NarL T okc cs
  | .tup cs => NarL T okc cs
  | .clo _ cs => NarL T okc cs
  | .own _ _ => True
  | .oel _ _ _ _ => True
  | .ptr _ _ _ => True
  | .lit _ => True
  | .prp _ _ => True
  | .nil => True
  | .non => True
def NarL (T : Tbl) (okc : E → Bool) : List (FV T) → Prop
  | [] => True
  | c :: cs => NarF T okc c ∧ NarL T okc cs
end
mutual
theorem nar_rep {P : Program} (hT : TblOk P T) {okc : E → Bool} {E1 E2 : Env T} (hw : E2.w = E1.w) (hS : E2.S = fun e b => okc e = false ∧ E1.S e b) (hη : E2.η = E1.η) (hκ : E2.κ = E1.κ) (hH : E2.H = E1.H) : ∀ (v : FV T) (cv : Value), NarF T okc v → RepF E1 v cv → RepF E2 v cv
  | .d x, cv, n, h => by rw [NarF] at n; rw [RepF] at h ⊢; rw [hw, hS]; exact rep_nar hT n h
  | .lit b, cv, _, h => by rw [RepF] at h ⊢; exact h
  | .prp p i, cv, _, h => by rw [RepF] at h ⊢; exact h
  | .agg cs, cv, n, h => by rw [NarF] at n; rw [RepF] at h ⊢; obtain ⟨vs, h1, h2⟩ := h; exact ⟨vs, h1, nar_repL hT hw hS hη hκ hH cs vs n h2⟩
  | .tup cs, cv, n, h => by rw [NarF] at n; rw [RepF] at h ⊢; obtain ⟨vs, h1, h2⟩ := h; exact ⟨vs, h1, nar_repL hT hw hS hη hκ hH cs vs n h2⟩
  | .clo f cs, cv, n, h => by rw [NarF] at n; rw [RepF] at h ⊢; obtain ⟨vs, h1, h2⟩ := h; exact ⟨vs, h1, nar_repL hT hw hS hη hκ hH cs vs n h2⟩
  | .own id g, cv, _, h => by rw [RepF] at h ⊢; rw [hη, hκ, hH]; exact h
  | .oel id g i off, cv, _, h => by rw [RepF] at h ⊢; rw [hη, hH]; exact h
  | .ptr id g off, cv, _, h => by rw [RepF] at h ⊢; rw [hη, hH]; exact h
  | .elp e xs i off, cv, n, _ => by rw [NarF] at n; exact n.elim
  | .nil, cv, _, h => by rw [RepF] at h ⊢; exact h
  | .non, cv, _, _ => by rw [RepF]; trivial
theorem nar_repL {P : Program} (hT : TblOk P T) {okc : E → Bool} {E1 E2 : Env T} (hw : E2.w = E1.w) (hS : E2.S = fun e b => okc e = false ∧ E1.S e b) (hη : E2.η = E1.η) (hκ : E2.κ = E1.κ) (hH : E2.H = E1.H) : ∀ (cs : List (FV T)) (vs : List Value), NarL T okc cs → RepL E1 cs vs → RepL E2 cs vs
  | [], vs, _, h => by rw [RepL] at h ⊢; exact h
  | c :: cs, vs, n, h => by
    rw [NarL] at n
    rw [RepL] at h ⊢
    obtain ⟨v, r, h1, h2, h3⟩ := h
    exact ⟨v, r, h1, nar_rep hT hw hS hη hκ hH c v n.1 h2, nar_repL hT hw hS hη hκ hH cs r n.2 h3⟩
end
theorem go_cons {x : Pt} {l : List Pt} (h : noRow.go (x :: l) = true) : noRow x = true ∧ noRow.go l = true := by
  unfold noRow.go at h
  split at h
  · rename_i hx; exact ⟨hx, h⟩
  · cases h
theorem go_app : ∀ {a b : List Pt}, noRow.go (a ++ b) = true → noRow.go a = true ∧ noRow.go b = true := by
  intro a
  induction a with
  | nil => intro b h; exact ⟨rfl, h⟩
  | cons x a iha =>
    intro b h
    obtain ⟨h1, h2⟩ := go_cons h
    obtain ⟨h3, h4⟩ := iha h2
    refine ⟨?_, h4⟩
    show (match noRow x with | true => noRow.go a | false => false) = true
    rw [h1]
    exact h3
def AllN (T : Tbl) (okc : E → Bool) : List (FV T) → Prop | [] => True | c :: cs => (∃ d, c = .d d ∧ NarD T okc d) ∧ AllN T okc cs
theorem put_nar {okc : E → Bool} : ∀ (n : Nat), (∀ (p : Pt) (cs : List (FV T)), SizeOf.sizeOf p < n → noRow p = true → AllN T okc cs → NarF T okc (putP p cs).1 ∧ AllN T okc (putP p cs).2) ∧ ∀ (l : List Pt) (cs : List (FV T)), SizeOf.sizeOf l < n → noRow.go l = true → AllN T okc cs → NarL T okc (putPs l cs).1 ∧ AllN T okc (putPs l cs).2 := by
  intro n
  induction n with
  | zero => exact ⟨fun p _ h => by omega, fun l _ h => by omega⟩
  | succ n ih =>
    refine ⟨fun p cs hs hn ha => ?_, fun l cs hs hn ha => ?_⟩
    · cases p with
      | one =>
        cases cs with
        | nil => exact ⟨by show NarF T okc .non; rw [NarF]; trivial, trivial⟩
        | cons c cs => obtain ⟨⟨d, rfl, h1⟩, h2⟩ := ha; exact ⟨by show NarF T okc (.d d); rw [NarF]; exact h1, h2⟩
      | own id => cases hn
      | ptr id off => exact ⟨by show NarF T okc (.ptr id 1 off); rw [NarF]; trivial, ha⟩
      | oel id off => cases hn
      | elp e off => cases hn
      | nil => exact ⟨by show NarF T okc .nil; rw [NarF]; trivial, ha⟩
      | non => exact ⟨by show NarF T okc .non; rw [NarF]; trivial, ha⟩
      | agg l =>
        simp only [Pt.agg.sizeOf_spec] at hs
        obtain ⟨h1, h2⟩ := ih.2 l cs (by omega) (by rw [noRow] at hn; exact hn) ha
        exact ⟨by show NarF T okc (.agg (putPs l cs).1); rw [NarF]; exact h1, h2⟩
      | tup l =>
        simp only [Pt.tup.sizeOf_spec] at hs
        obtain ⟨h1, h2⟩ := ih.2 l cs (by omega) (by rw [noRow] at hn; exact hn) ha
        exact ⟨by show NarF T okc (.tup (putPs l cs).1); rw [NarF]; exact h1, h2⟩
      | clo f l =>
        simp only [Pt.clo.sizeOf_spec] at hs
        obtain ⟨h1, h2⟩ := ih.2 l cs (by omega) (by rw [noRow] at hn; exact hn) ha
        exact ⟨by show NarF T okc (.clo f (putPs l cs).1); rw [NarF]; exact h1, h2⟩
    · cases l with
      | nil => exact ⟨by show NarL T okc []; rw [NarL]; trivial, ha⟩
      | cons p l =>
        simp only [List.cons.sizeOf_spec] at hs
        obtain ⟨n1, n2⟩ := go_cons hn
        obtain ⟨h1, h2⟩ := ih.1 p cs (by omega) n1 ha
        obtain ⟨h3, h4⟩ := ih.2 l (putP p cs).2 (by omega) n2 h2
        exact ⟨by show NarL T okc ((putP p cs).1 :: (putPs l (putP p cs).2).1); rw [NarL]; exact ⟨h1, h3⟩, h4⟩
theorem putF_nar {okc : E → Bool} : ∀ (l : List (Nat × Pt)) (cs : List (FV T)), noRow.go (l.map (·.2)) = true → AllN T okc cs → (∀ q ∈ (putF' l cs).1, NarF T okc q.2) ∧ AllN T okc (putF' l cs).2 := by
  intro l
  induction l with
  | nil => intro cs _ ha; exact ⟨(fun q hq => by cases hq), ha⟩
  | cons q l ih =>
    obtain ⟨t, p⟩ := q
    intro cs hn ha
    obtain ⟨n1, n2⟩ := go_cons hn
    obtain ⟨h1, h2⟩ := (put_nar (SizeOf.sizeOf p + 1)).1 p cs (Nat.lt_succ_self _) n1 ha
    obtain ⟨h3, h4⟩ := ih (putP p cs).2 n2 h2
    refine ⟨fun q hq => ?_, h4⟩
    rcases List.mem_cons.1 (hq : q ∈ (t, (putP p cs).1) :: (putF' l (putP p cs).2).1) with rfl | hq
    · exact h1
    · exact h3 q hq
theorem putB_nar {okc : E → Bool} : ∀ (l : List (Nat × List Pt)) (cs : List (FV T)), noRow.go (l.flatMap (·.2)) = true → AllN T okc cs → ∀ id vs, (id, Cont.box vs) ∈ (putB l cs).1 → NarL T okc vs := by
  intro l
  induction l with
  | nil => intro cs _ _ id vs h; cases h
  | cons q l ih =>
    obtain ⟨id0, p⟩ := q
    intro cs hn ha id vs h
    obtain ⟨n1, n2⟩ := go_app (a := p) (b := l.flatMap (·.2)) (by simpa using hn)
    obtain ⟨h1, h2⟩ := (put_nar (SizeOf.sizeOf p + 1)).2 p cs (Nat.lt_succ_self _) n1 ha
    rcases List.mem_cons.1 (h : (id, Cont.box vs) ∈ (id0, Cont.box (putPs p cs).1) :: (putB l (putPs p cs).2).1) with h | h
    · have h2 := Cont.box.inj (Prod.mk.inj h).2
      rw [h2]
      exact h1
    · exact ih _ n2 h2 id vs h
theorem AllN.append {okc : E → Bool} : ∀ {a b : List (FV T)}, AllN T okc a → AllN T okc b → AllN T okc (a ++ b)
  | [], _, _, h => h
  | _ :: _, _, h, k => ⟨h.1, h.2.append k⟩
theorem allN_cells {P : Program} (hT : TblOk P T) {okc : E → Bool} : ∀ (es : List E) (x : TupT T.ST es), es.all (narE T okc) = true → AllN T okc (cellsT T es x) := by
  have one : ∀ (e : E) (x : Den T.ST e), narE T okc e = true → AllN T okc ((cellsE T e x).map FV.d) := by
    intro e x h
    cases e with
    | int k => exact ⟨⟨_, rfl, trivial⟩, trivial⟩
    | bool => exact ⟨⟨_, rfl, trivial⟩, trivial⟩
    | str => exact ⟨⟨_, rfl, trivial⟩, trivial⟩
    | lst e =>
      unfold narE at h
      rw [Bool.and_eq_true, Bool.not_eq_true'] at h
      exact ⟨⟨_, rfl, h⟩, trivial⟩
    | st s =>
      have hf : flatE T (.st s) = true := h
      have key : ∀ (l : List (Dyn T.ST)), (∀ d ∈ l, ∀ e' xs, d ≠ .lst e' xs) → AllN T okc (l.map FV.d) := by
        intro l
        induction l with
        | nil => intro _; trivial
        | cons d l ih =>
          intro hl
          refine ⟨⟨d, rfl, ?_⟩, ih fun d' hd => hl d' (List.mem_cons_of_mem _ hd)⟩
          cases d with
          | lst e' xs => exact absurd rfl (hl _ List.mem_cons_self e' xs)
          | _ => trivial
      refine key _ fun d hd e' xs => ?_
      obtain ⟨j, hj⟩ := List.mem_iff_getElem?.1 hd
      exact flat_all hT hf x j d hj e' xs
  intro es
  induction es with
  | nil => intro x _; trivial
  | cons e es ih =>
    intro x h
    rw [List.all_cons, Bool.and_eq_true] at h
    cases es with
    | nil => exact one e x h.1
    | cons e2 es => exact (one e x.1 h.1).append (ih x.2 h.2)
theorem lookN_P {α : Type _} {Q : α → Prop} {z : α} (hz : Q z) {l : List (Nat × α)} (h : ∀ q ∈ l, Q q.2) (t : Nat) : Q (lookN z l t) := by
  rcases lookN_in z l t with h0 | h0
  · rw [h0]; exact hz
  · exact h _ h0
/-- What a function does that writes where it reads, for any caller. -/
theorem widen {P : Program} (hT : TblOk P T) {okc : E → Bool} {e : Ent3 T} (h : Ent3Nar P T okc e) (hc : narIn T okc e.e.pin = true) : Ent3Ok P T e := by
  refine ⟨h.1, fun R x K r hG B E cargs I hH hf hl => ?_⟩
  unfold narIn at hc
  simp only [Bool.and_eq_true, List.isEmpty_iff] at hc
  obtain ⟨c1, c2, c3, c4, c5⟩ := hc
  have n2 := nodupN_ok c3
  have hcan := canon_eq e.e.pin x c2
  have hall := allN_cells hT e.e.pin.es x c1
  obtain ⟨f1, f2⟩ := putF_nar e.e.pin.pts (cellsT T e.e.pin.es x) c4 hall
  have fb := putB_nar e.e.pin.bxs (putF' e.e.pin.pts (cellsT T e.e.pin.es x)).2 c5 f2
  let En : Env T := ⟨E.w, fun e b => okc e = false ∧ E.S e b, E.η, E.κ, E.H⟩
  let Bn : Base := ⟨E.w, fun e b => okc e = false ∧ E.S e b, fun b => ∃ id, Has E id ∧ E.η id = b, B.fx, B.kx, B.lx⟩
  have third : ∀ k, (∃ id, Has E id ∧ E.η id = k) → B.w0.heap.size ≤ k ∨ B.M0 k := by
    rintro k ⟨id, h1, rfl⟩; exact (I.own id h1).2.2
  have In : InvE Bn En := by
    refine ⟨fun id => ?_, fun id hh => ?_, fun i j hi hj => I.inj i j hi hj, fun id e xs hr hk => .inr ⟨id, .inr ⟨e, xs, hr, hk⟩, rfl⟩, fun e b hb => I.slt e b hb.2, fun _ _ h => h, fun _ _ h _ => .inl h, rfl, rfl, rfl, Nat.le_refl _, fun _ _ _ => rfl, I.fxd, I.cap⟩
    · have hs := I.slot id
      unfold SlotOk at hs ⊢
      have hHid : (E.H id).c = lookN .none (putB e.e.pin.bxs (putF' e.e.pin.pts (cellsT T e.e.pin.es x)).2).1 id := by rw [hH, hcan]; rfl
      show match (E.H id).c with | .none => _ | .box cs => _ | .row e xs => _ | .frz e xs => _
      rcases lookN_in Cont.none (putB e.e.pin.bxs (putF' e.e.pin.pts (cellsT T e.e.pin.es x)).2).1 id with h0 | h0
      · rw [hHid, h0]; trivial
      · rw [← hHid] at h0
        cases hcc : (E.H id).c with
        | none => trivial
        | box cs =>
          rw [hcc] at hs h0
          obtain ⟨k1, arr, t, k2, k3⟩ := hs
          exact ⟨k1, arr, t, k2, nar_repL hT (E1 := E) (E2 := En) rfl rfl rfl rfl rfl _ _ (fb id cs h0) k3⟩
        | row e2 xs => rw [hcc] at h0; exact absurd h0 (by
            have : ∀ (l : List (Nat × List Pt)) (cs : List (FV T)), (id, Cont.row e2 xs) ∉ (putB l cs).1 := by
              intro l
              induction l with
              | nil => intro cs h; cases h
              | cons q l ih =>
                intro cs h
                obtain ⟨i, p⟩ := q
                rcases List.mem_cons.1 (h : (id, Cont.row e2 xs) ∈ (i, Cont.box (putPs p cs).1) :: (putB l (putPs p cs).2).1) with h | h
                · cases (Prod.mk.inj h).2
                · exact ih _ h
            exact this _ _)
        | frz e2 xs => rw [hcc] at h0; exact absurd h0 (by
            have : ∀ (l : List (Nat × List Pt)) (cs : List (FV T)), (id, Cont.frz e2 xs) ∉ (putB l cs).1 := by
              intro l
              induction l with
              | nil => intro cs h; cases h
              | cons q l ih =>
                intro cs h
                obtain ⟨i, p⟩ := q
                rcases List.mem_cons.1 (h : (id, Cont.frz e2 xs) ∈ (i, Cont.box (putPs p cs).1) :: (putB l (putPs p cs).2).1) with h | h
                · cases (Prod.mk.inj h).2
                · exact ih _ h
            exact this _ _)
    · have := I.own id hh
      exact ⟨fun e hb => this.1 e hb.2, this.2.1, .inr ⟨id, hh, rfl⟩⟩
  have hcall := h.2 R x K r hG Bn (fun e b hk hb => by
    have h1 : okc e = false := hb.1
    rw [hk] at h1; cases h1) En cargs In hH (fun t => by
    refine nar_rep hT (E1 := E) (E2 := En) rfl rfl rfl rfl rfl _ _ ?_ (hf t)
    rw [hcan]
    exact lookN_P (Q := NarF T okc) (by rw [NarF]; trivial) f1 t) hl
  refine hcall.mono fun en w' hR => ?_
  obtain ⟨y, hy, rv, E3, v, g1, rfl, rfl, I3, H3, hv⟩ := hR
  have le : EnvLe E3 ⟨E3.w, fun e b => E.S e b ∨ E3.S e b, E3.η, E3.κ, E3.H⟩ := ⟨Nat.le_refl _, fun _ b hb => ⟨.inr hb, rfl⟩, fun _ => Nat.le_refl _, fun id _ hn => ⟨((EnvLe.refl E3).same id rfl hn).1, rfl, rfl⟩⟩
  have conv : ∀ b, (Bn.w0.heap.size ≤ b ∨ Bn.M0 b) → B.w0.heap.size ≤ b ∨ B.M0 b := by
    intro b hb
    rcases hb with hb | hb
    · exact .inl (Nat.le_trans I.size hb)
    · exact third b hb
  refine ⟨y, hy, rv, ⟨E3.w, fun e b => E.S e b ∨ E3.S e b, E3.η, E3.κ, E3.H⟩, v, g1, rfl, rfl, ?_, H3, RepF.mono le _ _ hv⟩
  refine ⟨fun id => slot_mono le rfl rfl rfl (fun _ => rfl) (I3.slot id), fun id hh => ?_, I3.inj, fun id e xs hr hk => conv _ (I3.rowl id e xs hr hk), fun e b hb => ?_, fun e b hb => .inl (I.s0 e b hb), fun e b hb hlt => ?_, I3.os.trans I.os, I3.tape.trans I.tape, I3.output.trans I.output, Nat.le_trans I.size I3.size, fun k hk hm => ?_, I3.fxd, I3.cap⟩
  · have := I3.own id hh
    refine ⟨fun e hb => ?_, this.2.1, conv _ this.2.2⟩
    rcases hb with hb | hb
    · rcases this.2.2 with h1 | ⟨j, h1, h2⟩
      · exact absurd (I.slt e _ hb) (Nat.not_lt.2 h1)
      · exact (I.own j h1).1 e (h2 ▸ hb)
    · exact this.1 e hb
  · rcases hb with hb | hb
    · exact Nat.lt_of_lt_of_le (I.slt e b hb) I3.size
    · exact I3.slt e b hb
  · rcases hb with hb | hb
    · exact I.s1 e b hb hlt
    · rcases I3.s1 e b hb (Nat.lt_of_lt_of_le hlt I.size) with h1 | h1
      · exact I.s1 e b h1.2 hlt
      · rcases third b h1 with h2 | h2
        · omega
        · exact .inr h2
  · refine (I3.blk k (Nat.lt_of_lt_of_le hk I.size) (fun h1 => ?_)).trans (I.blk k hk hm)
    rcases third k h1 with h2 | h2
    · omega
    · exact hm h2
/-- A function that stores numbers where it reads, as it is printed. -/
theorem fun_of3n {P : Program} (hT : TblOk P T) (hm : P.follows .mixedOrders = true) (n : FuncId) (fn : Func) {body : Code} (hfn : P.funcs[n]? = some fn) (hb : fn.body = some body) (hn : (fn.name == "runtime.NumGoroutine") = false) (na : Nat) (pin pout : Cut) (hna : Nat.ble na fn.ntmps = true)
    (sites : List (Nat × Cut)) (okc : E → Bool) (hnar : narIn T okc pin = true)
    (ents : Nat → Ents T) (us : (R : Type) → (TupT T.ST pout.es → Option R) → List (CutU T R)) (h0 : ∀ R K, EachU (fun u => ∀ x, u.L 0 x = none) (us R K)) (hs : ∀ R K, EachU (fun u => ∀ k x, runU T (calH (hvsInt T sites okc) (ents k)) (jmps (us R K) k) (finR pout fn.results.toList K) fn (some u.id) (canonC u.c x) = u.L (k + 1) x) (us R K))
    (F : Nat → (R : Type) → TupT T.ST pin.es → (TupT T.ST pout.es → Option R) → Option R) (hr : ∀ k R K x, runU T (calH (hvsInt T sites okc) (ents k)) (jmps (us R K) k) (finR pout fn.results.toList K) fn none (canonC pin x) = F k R x K) (hc : ∀ k, EntsOk P T (ents k)) (k : Nat) : Ent3Ok P T ⟨⟨n, na, pin, pout, fn.results.toList, fun _ => none⟩, F k⟩ :=
  widen hT (okc := okc) ⟨enters_of hfn hb hn, fun R x K r h B hB E cargs I hH hf hl => ent3_core hT hm hfn hb (Nat.le_of_ble_eq_true hna) (fun u hu => (h0 R K).all u hu) (fun u hu => (hs R K).all u hu) (fun j hj => calH_ok hT (hvInt_ok hT sites okc) (hc j)) (by rw [hr]; exact h) B (fun _ => hB) E cargs I hH hf hl⟩ hnar
end
end Go.Proofs.Ytejfjfhopapaaaa.PE
namespace Go.Proofs.Ytejfjfhopapaaaa.PE
noncomputable section
set_option linter.unusedVariables false
open Go Go.RowKit Go.ChangeShapes Go.WideShapes
variable {T : Tbl}
/-- Cells that are these values, one by one. -/
def CellsR (T : Tbl) (w : World) (ys : List (Dyn T.ST)) (cs : List Value) : Prop := cs.length = ys.length ∧ ∀ (j : Nat) y, ys[j]? = some y → ∃ cv, cs[j]? = some cv ∧ Rep T w (fun _ b => b < w.heap.size) y cv
theorem CellsR.one {w : World} {y : Dyn T.ST} {cv : Value} (h : Rep T w (fun _ b => b < w.heap.size) y cv) : CellsR T w [y] [cv] := by
  refine ⟨rfl, fun j z hj => ?_⟩
  cases j with
  | zero => simp at hj; subst hj; exact ⟨cv, rfl, h⟩
  | succ j => simp at hj
theorem CellsR.nil {w : World} {cs : List Value} {o : Nat} (h : cs.length = o) : CellsR T w [] (cs.drop o) := ⟨by rw [List.length_drop, h, Nat.sub_self]; rfl, fun j y hj => by simp at hj⟩
theorem CellsR.seq {w : World} {ys zs : List (Dyn T.ST)} {cs : List Value} {o s : Nat} (h : CellsR T w ys ((cs.drop o).take s)) (hs : ys.length = s) (k : CellsR T w zs (cs.drop (o + s))) : CellsR T w (ys ++ zs) (cs.drop o) := by
  have e : cs.drop o = (cs.drop o).take s ++ cs.drop (o + s) := by rw [← List.drop_drop]; exact (List.take_append_drop s (cs.drop o)).symm
  rw [e]
  refine ⟨by rw [List.length_append, List.length_append, h.1, k.1], fun j y hj => ?_⟩
  by_cases hlt : j < ys.length
  · rw [List.getElem?_append_left hlt] at hj
    obtain ⟨cv, h1, h2⟩ := h.2 j y hj
    exact ⟨cv, by rw [List.getElem?_append_left (by rw [h.1]; exact hlt)]; exact h1, h2⟩
  · rw [List.getElem?_append_right (by omega)] at hj
    obtain ⟨cv, h1, h2⟩ := k.2 _ y hj
    exact ⟨cv, by rw [List.getElem?_append_right (by rw [h.1]; omega), h.1]; exact h1, h2⟩
/-- Each list of cells of type t that is read with that much fuel is a value of the code e, and as ok says. -/
def Opens {H : Type} (enc : TypeId × Value → H) (P : Program) (T : Tbl) (w : World) (t : TypeId) (e : E) (ok : Den T.ST e → Prop) (n : Nat) : Prop :=
  ∀ cs x, DataW.trod enc P w 0 (fun _ => true) true n t cs = some x → ∃ a : Den T.ST e, CellsR T w (cellsE T e a) cs ∧ ok a
section
variable {H : Type} {enc : TypeId × Value → H} {P : Program} {w : World} {t e' : TypeId} {n : Nat}
theorem opens_int {k : IntKind} (ht : P.underlying t = some (.int k)) : Opens enc P T w t (.int k) (fun a => (Lit.int k a).wf = true) n := by
  intro cs x h
  obtain ⟨a, rfl, _, hw⟩ := DataW.trod_int ht h
  exact ⟨a, CellsR.one (rep_int.2 rfl), hw⟩
theorem opens_bool (ht : P.underlying t = some .bool) : Opens enc P T w t .bool (fun _ => True) n := by
  intro cs x h
  obtain ⟨a, rfl, _⟩ := DataW.trod_bool ht h
  exact ⟨a, CellsR.one (rep_bool.2 rfl), trivial⟩
theorem opens_string (ht : P.underlying t = some .string) : Opens enc P T w t .str (fun a => a.size ≤ maxLen) n := by
  intro cs x h
  obtain ⟨a, rfl, _, hs⟩ := DataW.trod_string ht h
  exact ⟨a, CellsR.one (rep_str.2 rfl), hs⟩
theorem cells_get {a : Addr} {m : Nat} {cs : List Value} (h : w.cells? 0 a m = some cs) : cs.length = m ∧ ∀ (i : Nat) u, cs[i]? = some u → w.cell? (a.add i) = some u := by
  unfold World.cells? at h
  rw [if_pos (Nat.zero_le _)] at h
  have hl := mapM_some_length h
  refine ⟨by simpa using hl, fun i u hu => ?_⟩
  have hi : i < m := by
    have := (List.getElem?_eq_some_iff.1 hu).1
    simp at hl
    omega
  have := mapM_some_get h i i (by simp [hi])
  rw [this]
  exact hu
theorem addr_add (a : Addr) (i j : Nat) : (a.add i).add j = a.add (i + j) := by
  unfold Addr.add
  by_cases hi : i = 0
  · subst hi; simp
  · by_cases hj : j = 0
    · subst hj; simp [hi]
    · simp [hi, hj, Nat.add_assoc]
theorem choose_list {α : Type} {β : Type} (P' : α → β → Prop) : ∀ (l : List β), (∀ b ∈ l, ∃ a, P' a b) → ∃ ars : List α, ars.length = l.length ∧ ∀ (j : Nat) a b, ars[j]? = some a → l[j]? = some b → P' a b := by
  intro l
  induction l with
  | nil => intro _; exact ⟨[], rfl, fun j a b h => by simp at h⟩
  | cons b l ih =>
    intro h
    obtain ⟨a, ha⟩ := h b List.mem_cons_self
    obtain ⟨ars, hl, hp⟩ := ih (fun b' hb' => h b' (List.mem_cons_of_mem _ hb'))
    refine ⟨a :: ars, by simp [hl], fun j x y hx hy => ?_⟩
    cases j with
    | zero =>
      simp at hx hy
      subst hx; subst hy
      exact ha
    | succ j => exact hp j x y (by simpa using hx) (by simpa using hy)
theorem cell_lt {a : Addr} {v : Value} (h : w.cell? a = some v) : a.block < w.heap.size := by
  unfold World.cell? at h
  cases hb : w.heap[a.block]? with
  | none => rw [hb] at h; simp at h
  | some b => exact (Array.getElem?_eq_some_iff.1 hb).1
theorem opens_slice (hT : TblOk P T) {e : E} {ok : Den T.ST e → Prop} (ht : P.underlying t = some (.slice e')) (he : T.ety e' = some e) (hsz : P.cellsOf e' = szE T e) (hst : T.str e = false) (hall : (∀ e', T.str e' = false) ∨ ∃ k, e = .int k) (h0 : ∀ m, m < n → Opens enc P T w e' e ok m) :
    Opens enc P T w t (.lst e) (fun xs => xs.length ≤ maxLen ∧ ∀ x ∈ xs, ok x) n := by
  intro cs x h
  have hpos := (hT.ty _ _ he).pos
  rcases DataW.trod_slice ht h with ⟨rfl, _⟩ | ⟨a, len, cap, elems, rest, m, rfl, rfl, _, _, hl, hm, hlen, hel, _⟩
  · exact ⟨[], CellsR.one (rep_lst_mk (xs := ([] : List (Den T.ST e))) (Nat.le_refl _) (fun _ h => absurd rfl h) (fun h => absurd rfl h)), Nat.zero_le _, fun x hx => by cases hx⟩
  · have key : ∀ b ∈ List.range len, ∃ y : Den T.ST e, ∃ c, (CellsR T w (cellsE T e y) c ∧ ∀ (i : Nat) u, c[i]? = some u → w.cell? (a.add (b * szE T e + i)) = some u) ∧ ok y := by
      intro b hb
      have hb' : b < len := by simpa using hb
      have h1 := hel b hb'
      have h2 : elems[b]? = some elems[b] := List.getElem?_eq_getElem (by omega)
      rw [h2] at h1
      obtain ⟨c, hc, ht2⟩ := Option.bind_eq_some_iff.1 h1
      obtain ⟨y, hK, hy⟩ := h0 m (by omega) c _ ht2
      rw [hsz] at hc
      obtain ⟨hcl, hcg⟩ := cells_get hc
      exact ⟨y, c, ⟨hK, fun i u hu => by rw [← addr_add]; exact hcg i u hu⟩, hy⟩
    obtain ⟨ys, hyl, hy⟩ := choose_list (fun (y : Den T.ST e) (b : Nat) => ∃ c, (CellsR T w (cellsE T e y) c ∧ ∀ (i : Nat) u, c[i]? = some u → w.cell? (a.add (b * szE T e + i)) = some u) ∧ ok y) (List.range len) key
    have hyl' : ys.length = len := by simpa using hyl
    have get : ∀ (j : Nat) y, ys[j]? = some y → ∃ c, (CellsR T w (cellsE T e y) c ∧ ∀ (i : Nat) u, c[i]? = some u → w.cell? (a.add (j * szE T e + i)) = some u) ∧ ok y := by
      intro j y hj
      have hj' : j < len := by
        have := (List.getElem?_eq_some_iff.1 hj).1
        omega
      exact hy j y j hj (by simp [hj'])
    refine ⟨ys, ?_, by omega, fun y hyy => ?_⟩
    · have hrep : Rep T w (fun _ b => b < w.heap.size) (.lst e ys) (.slice (some a) ys.length cap) := by
        refine rep_lst_mk (by omega) (fun h => by rw [hst] at h; cases h) (fun hne => ?_)
        have hl0 : 0 < ys.length := List.length_pos_iff.2 hne
        have cell0 : ∃ u, w.cell? (a.add 0) = some u := by
          obtain ⟨c, ⟨h1, h2⟩, _⟩ := get 0 ys[0] (List.getElem?_eq_getElem hl0)
          have hc0 : 0 < c.length := by rw [h1.1, cells_len hT]; exact hpos
          exact ⟨c[0], by have := h2 0 c[0] (List.getElem?_eq_getElem hc0); simpa using this⟩
        obtain ⟨u, hu⟩ := cell0
        have hu' : w.cell? a = some u := by simpa [Addr.add] using hu
        have hspot := World.cell?_spot hu'
        obtain ⟨b, off, spot⟩ := a
        have hspot : spot = none := hspot
        subst hspot
        refine ⟨b, off, rfl, cell_lt hu', fun i x hi j y hj => ?_, fun i x hi j y hj cv _ => ?_⟩
        rotate_left
        · cases y with
          | lst e' ys =>
            intro hs
            rcases hall with hall | ⟨k, rfl⟩
            · rw [hall] at hs; cases hs
            · cases j <;> simp [cellsE] at hj
          | _ => trivial
        obtain ⟨c, ⟨h1, h2⟩, _⟩ := get i x hi
        obtain ⟨cv, h3, h4⟩ := h1.2 j y hj
        refine ⟨cv, ?_, h4⟩
        have := h2 j cv h3
        rw [add0] at this
        exact this
      have hc := CellsR.one hrep
      rw [hyl'] at hc
      exact hc
    · obtain ⟨j, hj⟩ := List.mem_iff_getElem?.1 hyy
      obtain ⟨c, _, ho⟩ := get j y hj
      exact ho
end
/-- One argument after the other. -/
theorem repL_cons {E : Env T} {c : FV T} {cs : List (FV T)} {v : Value} {vs : List Value} (h : RepF E c v) (k : RepL E cs vs) : RepL E (c :: cs) (v :: vs) := by
  rw [RepL]; exact ⟨v, vs, rfl, h, k⟩
theorem repL_nil {E : Env T} : RepL E ([] : List (FV T)) [] := by rw [RepL]
theorem repL_cells {w : World} : ∀ {ys : List (Dyn T.ST)} {cs : List Value}, CellsR T w ys cs → RepL (E0 T w (fun _ b => b < w.heap.size)) (ys.map FV.d) cs := by
  intro ys
  induction ys with
  | nil =>
    intro cs h
    have : cs = [] := List.length_eq_zero_iff.1 h.1
    subst this
    exact repL_nil
  | cons y ys ih =>
    intro cs h
    cases cs with
    | nil => exact absurd h.1 (by simp)
    | cons c cs =>
      refine repL_cons ?_ (ih ⟨by simpa using h.1, fun j z hj => ?_⟩)
      · obtain ⟨cv, h1, h2⟩ := h.2 0 y rfl
        simp at h1
        subst h1
        rw [RepF]
        exact h2
      · obtain ⟨cv, h1, h2⟩ := h.2 (j + 1) z (by simpa using hj)
        exact ⟨cv, by simpa using h1, h2⟩
theorem rep_agg {w : World} {ys : List (Dyn T.ST)} {cs : List Value} (h : CellsR T w ys cs) : RepF (E0 T w (fun _ b => b < w.heap.size)) (.agg (ys.map FV.d)) (.agg cs.toArray) := by
  rw [RepF]; exact ⟨cs, rfl, repL_cells h⟩
theorem rep_one {w : World} {y : Dyn T.ST} {v : Value} (h : CellsR T w [y] [v]) : RepF (E0 T w (fun _ b => b < w.heap.size)) (.d y) v := by
  obtain ⟨cv, h1, h2⟩ := h.2 0 y rfl
  simp at h1
  subst h1
  rw [RepF]; exact h2
/-- A law's call: what it comes to is true. -/
theorem law_calls {P : Program} {n : FuncId} {ash : List Sh} {aes : List E} {F : TupT T.ST aes → Option (TupT T.ST [.bool])} (hok : EntOk P T ⟨n, ash, aes, .one, [.bool], F⟩) {x : TupT T.ST aes} {r : Bool} (hr : F x = some r) {w : World} {cargs : List Value}
    (ha : RepL (E0 T w (fun _ b => b < w.heap.size)) (argL ash aes x) cargs) : Calls P n cargs.toArray w (fun e w' => e = .returned (.bool r) ∧ Below w.heap.size w w') := by
  refine (hok.2 x r hr w (fun _ b => b < w.heap.size) cargs (fun _ b h => h) ha).mono fun e w' h => ?_
  obtain ⟨v, S', rfl, hb, _, _, _, hv⟩ := h
  have hv : RepF (E0 T w' S') (.d (.bool r)) v := hv
  rw [RepF] at hv
  rw [rep_bool.1 hv]
  exact ⟨rfl, hb⟩
end
end Go.Proofs.Ytejfjfhopapaaaa.PE
