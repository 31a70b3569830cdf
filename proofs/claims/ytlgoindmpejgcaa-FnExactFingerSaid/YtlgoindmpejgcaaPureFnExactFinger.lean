/- The program's Finger returns what the reference's returns, for all arguments. -/
import Derived.Test.YtlgoindmpejgcaaXFingerh
namespace Go.Proofs.Ytlgoindmpejgcaa.Pure
open Go.RowKit Go.Proofs.Ytlgoindmpejgcaa.XFinger Go.Proofs.Ytlgoindmpejgcaa.XPure Go.Proofs.YtlgoindmpejgcaaW.PrintWords Go.Proofs.YtlgoindmpejgcaaW.PrintLast Go.Proofs.YtlgoindmpejgcaaW.PrintMore
set_option linter.unusedVariables false
set_option linter.unusedSimpArgs false
/-! #### which functions are blind -/
theorem specIn_ev (a b c : Int) : spec_l1In.f a b c = some (decide (b ≤ a) && decide (a ≤ c)) := by
  unfold spec_l1In.f
  by_cases h : a ≥ b
  · rw [if_pos h]; simp [show b ≤ a from h]
  · rw [if_neg h]; simp [show ¬ b ≤ a from h]
theorem implIn_ev (a b c : Int) : impl_from.f a b c = some (decide (b ≤ a) && decide (a ≤ c)) := by
  unfold impl_from.f
  by_cases h : a ≥ b
  · rw [if_pos h]; simp [show b ≤ a from h]
  · rw [if_neg h]; simp [show ¬ b ≤ a from h]
def isSym (l : List I_Sym) (f : Int) : Bool := decide (0 ≤ f) && decide (f ≤ (l.length : Int) - 1)
def blind (l : List I_Sym) (f : Int) : Bool := isSym l f && (rd_I_Sym l f).f2
theorem len_wrap {l : List I_Sym} (hl : l.length ≤ maxLen) : wrap64 ((l.length : Int) - 1) = (l.length : Int) - 1 := by
  have hm : maxLen = 9223372036854775807 := rfl
  exact wrap_id (by omega) (by omega)
theorem specBlind_ev (l : List I_Sym) (hl : l.length ≤ maxLen) (f : Int) : spec_Blind.f l f = some (blind l f) := by
  unfold spec_Blind.f
  rw [len_wrap hl, specIn_ev, Option.bind_some]
  unfold blind isSym
  by_cases h0 : 0 ≤ f <;> by_cases h1 : f ≤ (l.length : Int) - 1 <;> simp [h0, h1]
  omega
theorem implIsSym_ev (l : List I_Sym) (hl : l.length ≤ maxLen) (f : Int) : impl_isSym.f l f = some (isSym l f) := by
  unfold impl_isSym.f
  rw [len_wrap hl, implIn_ev, Option.bind_some]
  rfl
theorem implBlind_ev (l : List I_Sym) (hl : l.length ≤ maxLen) (f : Int) : impl_Blind.f l f = some (blind l f) := by
  unfold impl_Blind.f
  rw [implIsSym_ev l hl, Option.bind_some]
  unfold blind isSym
  by_cases h0 : 0 ≤ f <;> by_cases h1 : f ≤ (l.length : Int) - 1 <;> simp [h0, h1]
  omega
theorem elSymS_len {l : List I_Sym} (h : el_SymS l ≤ maxLen) : l.length ≤ maxLen := by unfold el_SymS at h; omega
/-! #### fingers -/
def top (f : Int) : Int := if f < 0 then -1 else f
def fgAny (s : List I_Sym) (t : I_Term) : Bool := decide (t.f0 < 0) || blind s t.f0
def fgAt (s : List I_Sym) (t : I_Term) (i : Nat) : Int := if fgAny s t = true then -3 else if i < t.f2.length then top (rd_I_Term t.f2 i).f0 else -2
def finger (s : List I_Sym) (t : I_Term) : List Int := [top t.f0, fgAt s t 0, fgAt s t 1, fgAt s t 2]
theorem specTop_ev (a b : Int) (l : List I_Term) : spec_l27Top.f a b l = some (top a) := by unfold spec_l27Top.f top; split <;> rfl
theorem implTop_ev (a b : Int) (l : List I_Term) : impl_headOf.f a b l = some (top a) := by
  unfold impl_headOf.f top mx
  congr 1
  split <;> split <;> omega
theorem wrap3 {i : Nat} (h : i < 3) : wrap64 ((i : Int) + 1) = ((i + 1 : Nat) : Int) := by
  rw [wrap_id (by omega) (by omega)]
  rfl
theorem specFinger_step (s : List I_Sym) (hs : s.length ≤ maxLen) (t : I_Term) (i : Nat) (hi : i < 3) (out : List Int) (ho : out.length < 17592186044416) (r : List Int)
    (h : Ev (fun k => spec_Finger.l0 k s (out ++ [fgAt s t i]) ((i + 1 : Nat) : Int) t.f0 t.f1 t.f2) r) : Ev (fun k => spec_Finger.l0 k s out (i : Int) t.f0 t.f1 t.f2) r := by
  have j1 : Ev (fun k => spec_Finger.j1 k s out (i : Int) (fgAny s t) t.f0 t.f1 t.f2) r := by
    refine Ev.step (fun k => by simp only [spec_Finger.j1]; rfl) ?_
    by_cases ha : fgAny s t = true
    · refine Ev.ite_pos ha (Ev.ite_pos ho ?_)
      rw [wrap3 hi]
      rw [show fgAt s t i = -3 from by unfold fgAt; rw [if_pos ha]] at h
      exact h
    · refine Ev.ite_neg ha ?_
      by_cases hk : i < t.f2.length
      · refine Ev.ite_pos (by omega) (Ev.ite_pos (by omega) ?_)
        rw [show fgAt s t i = top (rd_I_Term t.f2 i).f0 from by unfold fgAt; rw [if_neg ha, if_pos hk]] at h
        refine Ev.bind (Ev.cst (specTop_ev _ _ _)) (Ev.ite_pos ho ?_)
        rw [wrap3 hi]
        exact h
      · refine Ev.ite_neg (by omega) (Ev.ite_pos ho ?_)
        rw [wrap3 hi]
        rw [show fgAt s t i = -2 from by unfold fgAt; rw [if_neg ha, if_neg hk]] at h
        exact h
  refine Ev.step (fun k => by simp only [spec_Finger.l0]; rfl) (Ev.ite_pos (by omega) ?_)
  by_cases hf : t.f0 < 0
  · refine Ev.ite_pos hf ?_
    rw [show fgAny s t = true from by simp [fgAny, hf]] at j1
    exact j1
  · refine Ev.ite_neg hf (Ev.bind (Ev.cst (specBlind_ev s hs _)) ?_)
    rw [show fgAny s t = blind s t.f0 from by simp [fgAny, hf]] at j1
    exact j1
theorem specFinger_ev (s : List I_Sym) (hs : s.length ≤ maxLen) (t : I_Term) : Ev (fun k => spec_Finger.f k s t.f0 t.f1 t.f2) (finger s t) := by
  unfold spec_Finger.f
  refine Ev.bind (Ev.cst (specTop_ev _ _ _)) ?_
  refine specFinger_step s hs t 0 (by omega) _ (by simp) _ (specFinger_step s hs t 1 (by omega) _ (by simp) _ (specFinger_step s hs t 2 (by omega) _ (by simp) _ ?_))
  exact Ev.step (fun k => by simp only [spec_Finger.l0]; rfl) (Ev.ite_neg (by omega) Ev.some)
theorem implFinger_step (s : List I_Sym) (hs : s.length ≤ maxLen) (t : I_Term) (i : Nat) (hi : i < 3) (out : List Int) (ho : out.length < 17592186044416) (r : List Int)
    (h : Ev (fun k => impl_Finger.l0 k s (out ++ [fgAt s t i]) ((i + 1 : Nat) : Int) t.f0 t.f1 t.f2) r) : Ev (fun k => impl_Finger.l0 k s out (i : Int) t.f0 t.f1 t.f2) r := by
  have j1 : Ev (fun k => impl_Finger.j1 k s out (i : Int) (i : Int) (fgAny s t) t.f0 t.f1 t.f2) r := by
    refine Ev.step (fun k => by simp only [impl_Finger.j1]; rfl) ?_
    by_cases ha : fgAny s t = true
    · refine Ev.ite_pos ha (Ev.ite_pos ho ?_)
      rw [wrap3 hi]
      rw [show fgAt s t i = -3 from by unfold fgAt; rw [if_pos ha]] at h
      exact h
    · refine Ev.ite_neg ha ?_
      by_cases hk : i < t.f2.length
      · refine Ev.ite_pos (by omega) (Ev.ite_pos (by omega) ?_)
        rw [show fgAt s t i = top (rd_I_Term t.f2 i).f0 from by unfold fgAt; rw [if_neg ha, if_pos hk]] at h
        refine Ev.bind (Ev.cst (implTop_ev _ _ _)) (Ev.ite_pos ho ?_)
        rw [wrap3 hi]
        exact h
      · refine Ev.ite_neg (by omega) (Ev.ite_pos ho ?_)
        rw [wrap3 hi]
        rw [show fgAt s t i = -2 from by unfold fgAt; rw [if_neg ha, if_neg hk]] at h
        exact h
  refine Ev.step (fun k => by simp only [impl_Finger.l0]; rfl) (Ev.ite_pos (by omega) ?_)
  by_cases hf : t.f0 < 0
  · refine Ev.ite_pos hf ?_
    rw [show fgAny s t = true from by simp [fgAny, hf]] at j1
    exact j1
  · refine Ev.ite_neg hf (Ev.bind (Ev.cst (implBlind_ev s hs _)) ?_)
    rw [show fgAny s t = blind s t.f0 from by simp [fgAny, hf]] at j1
    exact j1
theorem implFinger_ev (s : List I_Sym) (hs : s.length ≤ maxLen) (t : I_Term) : Ev (fun k => impl_Finger.f k s t.f0 t.f1 t.f2) (finger s t) := by
  unfold impl_Finger.f
  refine Ev.bind (Ev.cst (implTop_ev _ _ _)) ?_
  refine implFinger_step s hs t 0 (by omega) _ (by simp) _ (implFinger_step s hs t 1 (by omega) _ (by simp) _ (implFinger_step s hs t 2 (by omega) _ (by simp) _ ?_))
  exact Ev.step (fun k => by simp only [impl_Finger.l0]; rfl) (Ev.ite_neg (by omega) Ev.some)
theorem finger_len (s : List I_Sym) (t : I_Term) : (finger s t).length = 4 := rfl
/-! #### marks on symbols: how far they count -/
theorem markText_l : ∀ (d : Nat) (x : Int) (b : ByteArray), x < 10 ^ d → b.size + d ≤ 1000 → ∃ c, Ev (fun k => laws_markText.l0 k x b) c := by
  intro d
  induction d with
  | zero =>
    intro x b hx hb
    exact ⟨_, Ev.step (fun k => by simp only [laws_markText.l0]; rfl) (Ev.ite_neg (by simp at hx; omega) (Ev.ite_pos (by omega) Ev.some))⟩
  | succ d ih =>
    intro x b hx hb
    by_cases h : x > 0
    · have hd : Int.tdiv x 10 = x / 10 := Int.tdiv_eq_ediv_of_nonneg (by omega)
      have h10 : (10 : Int) ^ (d + 1) = 10 ^ d * 10 := Int.pow_succ ..
      by_cases hw : x ≤ 9223372036854775807
      · obtain ⟨c, hc⟩ := ih (x / 10) (strOfNums [wrap64 (48 + Int.tmod x 10) % 256] ++ b) (by omega) (by rw [ByteArray.size_append, strOfNums_size, List.length_singleton]; omega)
        refine ⟨c, Ev.step (fun k => by simp only [laws_markText.l0]; rfl) (Ev.ite_pos h (Ev.bind Ev.some (Ev.ite_pos (by rw [strOfNums_size, List.length_singleton]; omega) ?_)))⟩
        rw [hd, wrap_id (x := x / 10) (by omega) (by omega)]
        exact hc
      · obtain ⟨c, hc⟩ := ih (wrap64 (Int.tdiv x 10)) (strOfNums [wrap64 (48 + Int.tmod x 10) % 256] ++ b) (by rw [hd]; unfold wrap64; omega) (by rw [ByteArray.size_append, strOfNums_size, List.length_singleton]; omega)
        exact ⟨c, Ev.step (fun k => by simp only [laws_markText.l0]; rfl) (Ev.ite_pos h (Ev.bind Ev.some (Ev.ite_pos (by rw [strOfNums_size, List.length_singleton]; omega) hc)))⟩
    · exact ⟨_, Ev.step (fun k => by simp only [laws_markText.l0]; rfl) (Ev.ite_neg h (Ev.ite_pos (by omega) Ev.some))⟩
theorem markText_ev (x : Int) (hx : x ≤ 4611686018427387904) : ∃ c, Ev (fun k => laws_markText.f k x) c := by
  unfold laws_markText.f
  by_cases h : x ≤ 0
  · exact ⟨_, Ev.ite_pos h Ev.some⟩
  · obtain ⟨c, hc⟩ := markText_l 20 x ⟨#[]⟩ (by omega) (by decide)
    exact ⟨c, Ev.ite_neg h hc⟩
def symSet (acc : List I_Sym) (n : Nat) (c : ByteArray) (v : Int) : List I_Sym :=
  ((acc.set (n : Int).toNat (⟨c, (rd_I_Sym acc n).f1, (rd_I_Sym acc n).f2⟩ : I_Sym)).set (n : Int).toNat (⟨(rd_I_Sym (acc.set (n : Int).toNat (⟨c, (rd_I_Sym acc n).f1, (rd_I_Sym acc n).f2⟩ : I_Sym)) n).f0, v + 1, (rd_I_Sym (acc.set (n : Int).toNat (⟨c, (rd_I_Sym acc n).f1, (rd_I_Sym acc n).f2⟩ : I_Sym)) n).f2⟩ : I_Sym)).set (n : Int).toNat (⟨(rd_I_Sym ((acc.set (n : Int).toNat (⟨c, (rd_I_Sym acc n).f1, (rd_I_Sym acc n).f2⟩ : I_Sym)).set (n : Int).toNat (⟨(rd_I_Sym (acc.set (n : Int).toNat (⟨c, (rd_I_Sym acc n).f1, (rd_I_Sym acc n).f2⟩ : I_Sym)) n).f0, v + 1, (rd_I_Sym (acc.set (n : Int).toNat (⟨c, (rd_I_Sym acc n).f1, (rd_I_Sym acc n).f2⟩ : I_Sym)) n).f2⟩ : I_Sym)) n).f0, (rd_I_Sym ((acc.set (n : Int).toNat (⟨c, (rd_I_Sym acc n).f1, (rd_I_Sym acc n).f2⟩ : I_Sym)).set (n : Int).toNat (⟨(rd_I_Sym (acc.set (n : Int).toNat (⟨c, (rd_I_Sym acc n).f1, (rd_I_Sym acc n).f2⟩ : I_Sym)) n).f0, v + 1, (rd_I_Sym (acc.set (n : Int).toNat (⟨c, (rd_I_Sym acc n).f1, (rd_I_Sym acc n).f2⟩ : I_Sym)) n).f2⟩ : I_Sym)) n).f1, ((Int.tmod (v + 1 + 1) 3) == 0)⟩ : I_Sym)
theorem markSymS_l (l : List I_Sym) (hl : l.length ≤ 1048577) : ∀ d n : Nat, n + d = l.length → ∀ (acc : List I_Sym) (v : Int), acc.length = l.length → 0 ≤ v → v + (3 * d : Nat) ≤ 4611686018427387904 → ∃ r, Ev (fun k => laws_markSymS.l0 k acc v (n : Int)) (v + (3 * d : Nat), r) := by
  have hm : maxLen = 9223372036854775807 := rfl
  intro d
  induction d with
  | zero =>
    intro n hn acc v ha h0 hv
    exact ⟨acc, Ev.step (fun k => by simp only [laws_markSymS.l0]; rfl) (Ev.ite_neg (by omega) (Ev.val (r := (v, acc)) Ev.some (by simp)))⟩
  | succ d ih =>
    intro n hn acc v ha h0 hv
    obtain ⟨c, hc⟩ := markText_ev v (by omega)
    have w1 : wrap64 (v + 1) = v + 1 := wrap_id (by omega) (by omega)
    have w2 : wrap64 (v + 1 + 1) = v + 1 + 1 := wrap_id (by omega) (by omega)
    have w3 : wrap64 (v + 1 + 1 + 1) = v + 1 + 1 + 1 := wrap_id (by omega) (by omega)
    obtain ⟨r, hr⟩ := ih (n + 1) (by omega) (symSet acc n c v) (v + 1 + 1 + 1) (by unfold symSet; simp only [List.length_set]; exact ha) (by omega) (by omega)
    refine ⟨r, Ev.step (fun k => by simp only [laws_markSymS.l0]; rfl) (Ev.ite_pos (by omega) (Ev.bind hc ?_))⟩
    refine Ev.ite_pos (by omega) ?_
    refine Ev.bind Ev.some ?_
    refine Ev.bind Ev.some ?_
    rw [wrap_nat (by omega), w1, w2, w3]
    refine Ev.val hr ?_
    have e : v + 1 + 1 + 1 + ((3 * d : Nat) : Int) = v + ((3 * (d + 1) : Nat) : Int) := by omega
    rw [e]
theorem markSymS_ev (l : List I_Sym) (v : Int) (hl : l.length ≤ 1048577) (h0 : 0 ≤ v) (hv : v ≤ 1048577) : ∃ r, Ev (fun k => laws_markSymS.f k l v) (v + (3 * l.length : Nat), r) := markSymS_l l hl l.length 0 (by omega) l v rfl h0 (by omega)
/-! #### marks on rows of numbers -/
def oneI (v : Int) : Int := v
theorem markIntS_ev (l : List Int) (v : Int) (hl : l.length ≤ maxLen) (h0 : 0 ≤ v) (hv : v + (l.length : Nat) ≤ 4611686018427387904) : Ev (fun k => laws_markIntS.f k l v) (v + (l.length : Nat), mkL oneI 1 v l.length) := by
  have hm : maxLen = 9223372036854775807 := rfl
  have h := mark_loop oneI 1 (fun k acc v i => laws_markIntS.l0 k acc v i) (fun k acc v n hn hl h0 hv => by
    simp only [laws_markIntS.l0]
    rw [if_pos (by omega), if_pos (by omega), Int.toNat_natCast, wrap_nat (by omega), wrap_id (by omega) (by omega)]
    rfl) (fun k acc v => by
    simp only [laws_markIntS.l0]
    rw [if_neg (by omega)]) l hl v h0 (by omega)
  rw [Nat.one_mul] at h
  exact h
theorem heldIntS_ev (m : Nat) (v : Int) (hl : m ≤ maxLen) (h0 : 0 ≤ v) (hv : v + (m : Nat) ≤ 4611686018427387904) : Ev (fun k => laws_heldIntS.f k (mkL oneI 1 v m) v) (v + (m : Nat)) := by
  have hm : maxLen = 9223372036854775807 := rfl
  have h := held_loop oneI 1 0 (fun k acc v i => laws_heldIntS.l0 k acc v i) (fun k acc v n hn hl h0 hv e => by
    simp only [laws_heldIntS.l0]
    have e' : rd acc (n : Int) = v := e
    rw [if_pos (by omega), if_pos (by omega), if_pos e', wrap_nat (by omega), wrap_id (by omega) (by omega)]
    rfl) (fun k acc v => by
    simp only [laws_heldIntS.l0]
    rw [if_neg (by omega)]) m hl v h0 (by omega)
  rw [Nat.one_mul] at h
  exact h
/-! #### marks on terms: how far they count -/
theorem elTermS_cons (t : I_Term) (r : List I_Term) : el_TermS (t :: r) = 1 + el_TermS t.f2 + el_TermS r := by
  rw [el_TermS, el_Term_eq]
theorem markTermS_l (n : Nat) (ih : ∀ l : List I_Term, el_TermS l < n → ∀ v : Int, 0 ≤ v → v + (2 * el_TermS l : Nat) ≤ 4611686018427387904 → Ev (fun k => laws_markTermS.f k l v) (v + (2 * el_TermS l : Nat))) (l : List I_Term) (hl : l.length ≤ maxLen) :
    ∀ (r : List I_Term) (i : Nat), l.drop i = r → el_TermS r ≤ n → ∀ v : Int, 0 ≤ v → v + (2 * el_TermS r : Nat) ≤ 4611686018427387904 → Ev (fun k => laws_markTermS.l0 k l v (i : Int)) (v + (2 * el_TermS r : Nat)) := by
  have hm : maxLen = 9223372036854775807 := rfl
  intro r
  induction r with
  | nil =>
    intro i hi hn v h0 hv
    have : l.length ≤ i := List.drop_eq_nil_iff.1 hi
    exact Ev.step (fun k => by simp only [laws_markTermS.l0]; rfl) (Ev.ite_neg (by omega) (Ev.val Ev.some (by rw [el_TermS]; omega)))
  | cons t r ihr =>
    intro i hi hn v h0 hv
    have hlt : i < l.length := by
      rcases Nat.lt_or_ge i l.length with h | h
      · exact h
      · rw [List.drop_of_length_le h] at hi; cases hi
    have hd := getD_drop l zI_Term i hlt
    rw [hi] at hd
    have e1 : rd_I_Term l (i : Int) = t := by
      show l.getD (Int.toNat (i : Int)) zI_Term = t
      rw [Int.toNat_natCast]
      exact (List.cons.inj hd).1.symm
    have e2 : l.drop (i + 1) = r := (List.cons.inj hd).2.symm
    rw [elTermS_cons] at hn hv ⊢
    refine Ev.step (fun k => by simp only [laws_markTermS.l0]; rfl) (Ev.ite_pos (by omega) (Ev.ite_pos (by omega) ?_))
    rw [e1, wrap_id (x := v + 1) (by omega) (by omega), wrap_id (by omega) (by omega), wrap_nat (by omega)]
    refine Ev.bind (ih t.f2 (by omega) (v + 1 + 1) (by omega) (by omega)) ?_
    refine Ev.val (ihr (i + 1) e2 (by omega) _ (by omega) (by omega)) (by omega)
theorem markTermS_all (n : Nat) : ∀ l : List I_Term, el_TermS l ≤ n → ∀ v : Int, 0 ≤ v → v + (2 * el_TermS l : Nat) ≤ 4611686018427387904 → Ev (fun k => laws_markTermS.f k l v) (v + (2 * el_TermS l : Nat)) := by
  have hm : maxLen = 9223372036854775807 := rfl
  induction n using Nat.strongRecOn with
  | _ n ih =>
  intro l hn v h0 hv
  have hl : l.length ≤ el_TermS l := by rw [el_TermS_eq]; omega
  exact Ev.step (fun k => by simp only [laws_markTermS.f]; rfl) (markTermS_l (el_TermS l) (fun l' h' v' => ih (el_TermS l') (by omega) l' (Nat.le_refl _) v') l (by omega) l 0 rfl (Nat.le_refl _) v h0 hv)
theorem markTermS_ev (l : List I_Term) (v : Int) (h0 : 0 ≤ v) (hv : v + (2 * el_TermS l : Nat) ≤ 4611686018427387904) : Ev (fun k => laws_markTermS.f k l v) (v + (2 * el_TermS l : Nat)) := markTermS_all _ l (Nat.le_refl _) v h0 hv
theorem markTerm_ev (t : I_Term) (v : Int) (h0 : 0 ≤ v) (hv : v + (2 * el_Term t : Nat) ≤ 4611686018427387904) : Ev (fun k => laws_markTerm.f k t.f0 t.f1 t.f2 v) (v + (2 * el_Term t : Nat)) := by
  rw [el_Term_eq] at hv ⊢
  exact markTermS_ev t.f2 v h0 hv
theorem FnExactFinger : laws_FnExactFinger.Pure := by
  intro s t0 t1 tk hs ht0 ht1 htk
  refine Ev.rounds (g := fun k => laws_FnExactFinger.f k s t0 t1 tk) ?_
  unfold laws_FnExactFinger.f
  have hm : maxLen = 9223372036854775807 := rfl
  have W2 : Wf_L_Term ⟨t0, t1, tk⟩ := Wf_L_Term.mk _ ht0 ht1 htk.1 htk.2
  refine law_sz (by omega) (by omega) (szSymS_ev s hs 1048576 (by omega) (by omega)) fun q1 a1 b1 S1 => ?_
  refine Ev.nxt ?_
  simp only [laws_FnExactFinger.j0]
  refine law_sz a1 b1 (szTerm_ev ⟨t0, t1, tk⟩ W2 q1 a1 b1) fun q2 a2 b2 S2 => ?_
  have K1 : el_SymS (cv_SymS s) ≤ 1048576 := by have := el_cv_SymS s; omega
  have K2 : el_Term (cv_Term ⟨t0, t1, tk⟩) ≤ 1048576 := by have := el_cv_Term ⟨t0, t1, tk⟩; omega
  obtain ⟨S, hS⟩ : ∃ S, cv_SymS s = S := ⟨_, rfl⟩
  obtain ⟨V, hV⟩ : ∃ V, cv_Term ⟨t0, t1, tk⟩ = V := ⟨_, rfl⟩
  have tS := toSymS_ev s S1
  have tV := toTerm_ev ⟨t0, t1, tk⟩ S2
  rw [hS] at tS K1
  rw [hV] at tV K2
  have hl : S.length ≤ 1048576 := by unfold el_SymS at K1; omega
  have sp := specFinger_ev S (by omega) V
  have im := implFinger_ev S (by omega) V
  have hg := finger_len S V
  obtain ⟨G, hG⟩ : ∃ G, finger S V = G := ⟨_, rfl⟩
  rw [hG] at sp im hg
  have eG := eqIntS_ev G (by unfold el_IntS; rw [sum_zero _ _ (fun _ => rfl)]; omega)
  refine Ev.nxt ?_
  simp only [laws_FnExactFinger.j1]
  refine Ev.bind tS (Ev.bind tV (Ev.bind sp (Ev.bind tS (Ev.bind tV (Ev.bind im (Ev.bind eG (Ev.ite_pos rfl ?_)))))))
  refine Ev.nxt ?_
  simp only [laws_FnExactFinger.j2]
  refine Ev.bind tS (Ev.bind (eqSymS_ev S (by omega)) (Ev.ite_pos rfl ?_))
  refine Ev.nxt ?_
  simp only [laws_FnExactFinger.j3]
  refine Ev.bind tV (Ev.bind (eqTerm_ev V (by omega)) (Ev.ite_pos rfl ?_))
  refine Ev.nxt ?_
  simp only [laws_FnExactFinger.j4]
  obtain ⟨m1, M1⟩ := markSymS_ev S 1 (by omega) (by omega) (by omega)
  refine Ev.bind M1 (Ev.bind (markTerm_ev V _ (by dsimp only; omega) (by dsimp only; omega)) ?_)
  refine Ev.ite_neg (by dsimp only; omega) (Ev.bind eG ?_)
  refine Ev.nxt ?_
  simp only [laws_FnExactFinger.j5]
  refine Ev.ite_neg (by simp) ?_
  refine Ev.nxt ?_
  simp only [laws_FnExactFinger.j6]
  refine Ev.bind (markIntS_ev G 1 (by omega) (by omega) (by omega)) (Ev.bind (heldIntS_ev G.length 1 (by omega) (by omega) (by omega)) ?_)
  refine Ev.ite_neg (by omega) ?_
  refine Ev.nxt ?_
  simp only [laws_FnExactFinger.j7]
  refine Ev.ite_pos (by first | rfl | trivial) ?_
  refine Ev.nxt ?_
  simp only [laws_FnExactFinger.j8]
  refine Ev.bind tS (Ev.bind tV (Ev.bind im (Ev.bind eG (Ev.ite_pos rfl ?_))))
  refine Ev.nxt ?_
  simp only [laws_FnExactFinger.j9]
  refine Ev.bind (heldIntS_ev G.length 1 (by omega) (by omega) (by omega)) (Ev.ite_neg (by omega) (Ev.ite_pos rfl Ev.some))
end Go.Proofs.Ytlgoindmpejgcaa.Pure
