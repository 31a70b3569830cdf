/- what was put into a queue in any order is taken in order, all of it. (P28) -/
import Derived.Test.YtlgoindmpejgcaaXLeastFirsth
namespace Go.Proofs.Ytlgoindmpejgcaa.Pure
open Go.RowKit Go.Proofs.Ytlgoindmpejgcaa.XLeastFirst Go.Proofs.Ytlgoindmpejgcaa.XPure Go.Proofs.YtlgoindmpejgcaaW.PrintWords Go.Proofs.YtlgoindmpejgcaaW.PrintLast Go.Proofs.YtlgoindmpejgcaaW.PrintMore
set_option linter.unusedVariables false
set_option linter.unusedSimpArgs false
def before (x y : I_Job) : Bool := if x.f0 < y.f0 then true else if x.f0 = y.f0 then decide (x.f1 < y.f1) else false
theorem specBefore_ev (x y : I_Job) : spec_JobBefore.f x.f0 x.f1 y.f0 y.f1 = some (before x y) := by
  unfold spec_JobBefore.f before
  split
  · rfl
  · split <;> rfl
theorem implBefore_ev (x y : I_Job) : impl_JobBefore.f x.f0 x.f1 y.f0 y.f1 = some (before x y) := by
  unfold impl_JobBefore.f before
  split
  · rfl
  · split <;> rfl
def par (n : Nat) : Nat := (n - 1) / 2
theorem wrap_par {n : Nat} (h1 : 1 ≤ n) (h : n ≤ maxLen) : wrap64 (Int.tdiv (wrap64 ((n : Int) - 1)) 2) = ((par n : Nat) : Int) := by
  have hm : maxLen = 9223372036854775807 := rfl
  have e : (n : Int) - 1 = ((n - 1 : Nat) : Int) := by omega
  rw [e, wrap_id (x := ((n - 1 : Nat) : Int)) (by omega) (by omega)]
  have e2 : Int.tdiv ((n - 1 : Nat) : Int) 2 = (((n - 1) / 2 : Nat) : Int) := rfl
  rw [e2, wrap_id (by omega) (by omega)]
  rfl
def qok (l : List I_Job) : Nat → Nat → Bool
  | 0, _ => decide ((l.length : Int) ≤ 60)
  | d + 1, n => if before (rd_I_Job l (n : Int)) (rd_I_Job l ((par n : Nat) : Int)) = true then false else qok l d (n + 1)
theorem specQueueOk_l (l : List I_Job) (hl : l.length ≤ maxLen) : ∀ d n : Nat, 1 ≤ n → l.length - n = d → Ev (fun k => spec_QueueOk.l0 k l (n : Int)) (qok l d n) := by
  intro d
  induction d with
  | zero =>
    intro n h1 hn
    exact Ev.step (fun k => by simp only [spec_QueueOk.l0]; rfl) (Ev.ite_neg (by omega) Ev.some)
  | succ d ih =>
    intro n h1 hn
    refine Ev.step (fun k => by simp only [spec_QueueOk.l0]; rfl) (Ev.ite_pos (by omega) (Ev.ite_pos (by omega) ?_))
    rw [wrap_par h1 (by omega), wrap_nat (by omega)]
    have hp : par n < n := by unfold par; omega
    refine Ev.ite_pos (by omega) (Ev.ite_pos (by omega) (Ev.bind (Ev.cst (specBefore_ev _ _)) ?_))
    rw [qok]
    by_cases h : before (rd_I_Job l (n : Int)) (rd_I_Job l ((par n : Nat) : Int)) = true
    · rw [if_pos h]; exact Ev.ite_pos h Ev.some
    · rw [if_neg h]; exact Ev.ite_neg h (ih _ (by omega) (by omega))
theorem implQueueOk_l (l : List I_Job) (hl : l.length ≤ maxLen) : ∀ d n : Nat, 1 ≤ n → l.length - n = d → Ev (fun k => impl_QueueOk.l0 k l (n : Int)) (qok l d n) := by
  intro d
  induction d with
  | zero =>
    intro n h1 hn
    exact Ev.step (fun k => by simp only [impl_QueueOk.l0]; rfl) (Ev.ite_neg (by omega) Ev.some)
  | succ d ih =>
    intro n h1 hn
    refine Ev.step (fun k => by simp only [impl_QueueOk.l0]; rfl) (Ev.ite_pos (by omega) (Ev.ite_pos (by omega) ?_))
    rw [wrap_par h1 (by omega), wrap_nat (by omega)]
    have hp : par n < n := by unfold par; omega
    refine Ev.ite_pos (by omega) (Ev.ite_pos (by omega) (Ev.bind (Ev.cst (implBefore_ev _ _)) ?_))
    rw [qok]
    by_cases h : before (rd_I_Job l (n : Int)) (rd_I_Job l ((par n : Nat) : Int)) = true
    · rw [if_pos h]; exact Ev.ite_pos h Ev.some
    · rw [if_neg h]; exact Ev.ite_neg h (ih _ (by omega) (by omega))
theorem specQueueOk_ev (l : List I_Job) (hl : l.length ≤ maxLen) : Ev (fun k => spec_QueueOk.f k l) (qok l (l.length - 1) 1) := by
  unfold spec_QueueOk.f
  exact specQueueOk_l l hl (l.length - 1) 1 (by omega) rfl
theorem implQueueOk_ev (l : List I_Job) (hl : l.length ≤ maxLen) : Ev (fun k => impl_QueueOk.f k l) (qok l (l.length - 1) 1) := by
  unfold impl_QueueOk.f
  exact implQueueOk_l l hl (l.length - 1) 1 (by omega) rfl
theorem qok_len (l : List I_Job) : ∀ d n : Nat, qok l d n = true → l.length ≤ 60 := by
  intro d
  induction d with
  | zero => intro n h; rw [qok] at h; have := of_decide_eq_true h; omega
  | succ d ih =>
    intro n h
    rw [qok] at h
    split at h
    · cases h
    · exact ih _ h
def swap (l : List I_Job) (i j : Nat) : List I_Job := (l.set i (rd_I_Job l (j : Int))).set j (rd_I_Job l (i : Int))
theorem swap_length (l : List I_Job) (i j : Nat) : (swap l i j).length = l.length := by simp [swap]
def up : Nat → List I_Job → Nat → List I_Job
  | 0, l, _ => l
  | d + 1, l, n => if 0 < n ∧ before (rd_I_Job l (n : Int)) (rd_I_Job l ((par n : Nat) : Int)) = true then up d (swap l n (par n)) (par n) else l
theorem up_length : ∀ (d : Nat) (l : List I_Job) (n : Nat), (up d l n).length = l.length := by
  intro d
  induction d with
  | zero => intro l n; rfl
  | succ d ih =>
    intro l n
    rw [up]
    split
    · rw [ih, swap_length]
    · rfl
theorem up_zero (d : Nat) (l : List I_Job) : up d l 0 = l := by
  cases d with
  | zero => rfl
  | succ d => rw [up, if_neg (fun h => absurd h.1 (by omega))]
def qput (l : List I_Job) (x : I_Job) : List I_Job × Bool := if qok l (l.length - 1) 1 = true ∧ l.length ≠ 60 then (up l.length (l ++ [x]) l.length, true) else (l, false)
theorem qput_length (l : List I_Job) (x : I_Job) : (qput l x).1.length ≤ l.length + 1 := by
  unfold qput
  split
  · rw [up_length]; simp
  · exact Nat.le_succ _
def kid (l : List I_Job) (i : Nat) : Nat := if 2 * i + 2 < l.length ∧ before (rd_I_Job l ((2 * i + 2 : Nat) : Int)) (rd_I_Job l ((2 * i + 1 : Nat) : Int)) = true then 2 * i + 2 else 2 * i + 1
def dn : Nat → List I_Job → Nat → List I_Job
  | 0, l, _ => l
  | d + 1, l, i => if 2 * i + 1 < l.length ∧ before (rd_I_Job l ((kid l i : Nat) : Int)) (rd_I_Job l (i : Int)) = true then dn d (swap l i (kid l i)) (kid l i) else l
theorem dn_length : ∀ (d : Nat) (l : List I_Job) (n : Nat), (dn d l n).length = l.length := by
  intro d
  induction d with
  | zero => intro l n; rfl
  | succ d ih =>
    intro l n
    rw [dn]
    split
    · rw [ih, swap_length]
    · rfl
theorem wrap_kid {i : Nat} (h : i ≤ 2097152) : wrap64 (wrap64 (2 * (i : Int)) + 1) = ((2 * i + 1 : Nat) : Int) := by
  rw [wrap_id (x := 2 * (i : Int)) (by omega) (by omega), wrap_id (by omega) (by omega)]
  omega
theorem wrap_kid1 {i : Nat} (h : i ≤ 2097152) : wrap64 (((2 * i + 1 : Nat) : Int) + 1) = ((2 * i + 2 : Nat) : Int) := by
  rw [wrap_id (by omega) (by omega)]
  omega
theorem kid_lt {l : List I_Job} {i : Nat} (h : 2 * i + 1 < l.length) : kid l i < l.length ∧ i < kid l i := by
  unfold kid
  split <;> omega
def rest (l : List I_Job) : List I_Job := dn l.length ((l.set 0 (rd_I_Job l ((l.length - 1 : Nat) : Int))).take (l.length - 1)) 0
theorem rest_length (l : List I_Job) : (rest l).length = l.length - 1 := by
  unfold rest
  rw [dn_length]
  simp
def qtake (l : List I_Job) : List I_Job × Int × Int × Bool := if qok l (l.length - 1) 1 = true ∧ l.length ≠ 0 then (rest l, (rd_I_Job l 0).f0, (rd_I_Job l 0).f1, true) else (l, 0, 0, false)
theorem qtake_length (l : List I_Job) : (qtake l).1.length ≤ l.length := by
  unfold qtake
  split
  · show (rest l).length ≤ l.length
    rw [rest_length]; omega
  · exact Nat.le_refl _
theorem wrap_last {l : List I_Job} (h : l.length ≤ 1048577) (h0 : l.length ≠ 0) : wrap64 ((l.length : Int) - 1) = ((l.length - 1 : Nat) : Int) := by
  rw [wrap_id (by omega) (by omega)]
  omega
theorem implClone_ev (l : List I_Job) (hl : l.length ≤ 1048577) : impl_Job.f l = some l := by
  unfold impl_Job.f
  rw [Option.bind_some, if_pos (by rw [List.length_nil]; omega)]
  rfl
theorem implUp_ev : ∀ (d : Nat) (l : List I_Job) (n : Nat), n ≤ d → n < l.length → l.length ≤ maxLen → Ev (fun k => impl_QueuePut.l0 k l (n : Int)) (up d l n, true) := by
  intro d
  induction d with
  | zero =>
    intro l n hn hl hm
    obtain rfl : n = 0 := by omega
    exact Ev.step (fun k => by simp only [impl_QueuePut.l0]; rfl) (Ev.ite_neg (by omega) Ev.some)
  | succ d ih =>
    intro l n hn hl hm
    by_cases h0 : n = 0
    · subst h0
      rw [up_zero]
      exact Ev.step (fun k => by simp only [impl_QueuePut.l0]; rfl) (Ev.ite_neg (by omega) Ev.some)
    have hp : par n < n := by unfold par; omega
    refine Ev.step (fun k => by simp only [impl_QueuePut.l0]; rfl) (Ev.ite_pos (by omega) (Ev.ite_pos (by omega) (Ev.ite_pos (by omega) ?_)))
    rw [wrap_par (by omega) (by omega)]
    refine Ev.ite_pos (by omega) (Ev.ite_pos (by omega) (Ev.bind (Ev.cst (implBefore_ev _ _)) ?_))
    rw [up]
    by_cases hb : before (rd_I_Job l (n : Int)) (rd_I_Job l ((par n : Nat) : Int)) = true
    · rw [if_pos ⟨by omega, hb⟩]
      exact Ev.ite_pos hb (ih (swap l n (par n)) (par n) (by omega) (by rw [swap_length]; omega) (by rw [swap_length]; omega))
    · rw [if_neg (fun h => hb h.2)]
      exact Ev.ite_neg hb Ev.some
theorem implPut_ev (l : List I_Job) (x : I_Job) (hl : l.length ≤ 1048576) : Ev (fun k => impl_QueuePut.f k l x.f0 x.f1) (qput l x) := by
  have hm : maxLen = 9223372036854775807 := rfl
  unfold impl_QueuePut.f
  have hj : ∀ b : Bool, Ev (fun k => impl_QueuePut.j0 k l b x.f0 x.f1) (if b = true then (l, false) else (up l.length (l ++ [x]) l.length, true)) := by
    intro b
    refine Ev.step (fun k => by simp only [impl_QueuePut.j0]; rfl) ?_
    cases b
    · refine Ev.ite_neg (by simp) (Ev.ite_pos (by omega) (Ev.bind Ev.some ?_))
      rw [if_neg (by simp)]
      have e : wrap64 (((l ++ [(⟨x.f0, x.f1⟩ : I_Job)]).length : Int) - 1) = (l.length : Int) := by
        rw [List.length_append, wrap_id] <;> simp <;> omega
      rw [e]
      exact implUp_ev l.length (l ++ [x]) l.length (Nat.le_refl _) (by simp) (by simp; omega)
    · exact Ev.ite_pos rfl Ev.some
  refine Ev.bind (Ev.cst (implClone_ev l (by omega))) (Ev.bind (implQueueOk_ev l (by omega)) ?_)
  unfold qput
  by_cases h : qok l (l.length - 1) 1 = true
  · refine Ev.ite_pos h (Ev.val (hj _) ?_)
    by_cases h6 : l.length = 60
    · rw [if_pos (by simp [h6]), if_neg (fun e => e.2 h6)]
    · rw [if_neg (by simp; omega), if_pos ⟨h, h6⟩]
  · refine Ev.ite_neg h (Ev.val (hj _) ?_)
    rw [if_pos rfl, if_neg (fun e => h e.1)]
theorem implDn_ev (l0 : List I_Job) (h0 : 0 < l0.length) : ∀ (d : Nat) (l : List I_Job) (i : Nat), l.length ≤ i + d → l.length ≤ 1048577 → i ≤ 1048577 → Ev (fun k => impl_QueueTake.l0 k l0 l (l.length : Int) (i : Int)) (dn d l i, (rd_I_Job l0 0).f0, (rd_I_Job l0 0).f1, true) := by
  intro d
  induction d with
  | zero =>
    intro l i hd hl hi
    refine Ev.step (fun k => by simp only [impl_QueueTake.l0]; rfl) ?_
    rw [wrap_kid (by omega)]
    exact Ev.ite_neg (by omega) (Ev.ite_pos (by omega) Ev.some)
  | succ d ih =>
    intro l i hd hl hi
    by_cases hk : 2 * i + 1 < l.length
    · have j2 : ∀ b : Bool, (b = true → 2 * i + 2 < l.length) → Ev (fun k => impl_QueueTake.j2 k l0 l (l.length : Int) (i : Int) ((2 * i + 1 : Nat) : Int) b) (if before (rd_I_Job l ((if b = true then 2 * i + 2 else 2 * i + 1 : Nat) : Int)) (rd_I_Job l (i : Int)) = true then dn d (swap l i (if b = true then 2 * i + 2 else 2 * i + 1)) (if b = true then 2 * i + 2 else 2 * i + 1) else l, (rd_I_Job l0 0).f0, (rd_I_Job l0 0).f1, true) := by
        intro b hb
        have one : ∀ c : Nat, c < l.length → i < c → Ev (fun k => if 0 ≤ (c : Int) then (if (c : Int) < (l.length : Int) then (if 0 ≤ (i : Int) then (if (i : Int) < (l.length : Int) then ((impl_JobBefore.f ((rd_I_Job l (c : Int)).f0) ((rd_I_Job l (c : Int)).f1) ((rd_I_Job l (i : Int)).f0) ((rd_I_Job l (i : Int)).f1)).bind fun t => (if t = true then (impl_QueueTake.l0 k l0 (swap l i c) (l.length : Int) (c : Int)) else (if 0 < (l0.length : Int) then (some (l, (rd_I_Job l0 0).f0, (rd_I_Job l0 0).f1, true)) else (none)))) else (none)) else (none)) else (none)) else (none)) (if before (rd_I_Job l (c : Int)) (rd_I_Job l (i : Int)) = true then dn d (swap l i c) c else l, (rd_I_Job l0 0).f0, (rd_I_Job l0 0).f1, true) := by
          intro c hc hi2
          refine Ev.ite_pos (by omega) (Ev.ite_pos (by omega) (Ev.ite_pos (by omega) (Ev.ite_pos (by omega) (Ev.bind (Ev.cst (implBefore_ev _ _)) ?_))))
          by_cases hb : before (rd_I_Job l (c : Int)) (rd_I_Job l (i : Int)) = true
          · rw [if_pos hb]
            refine Ev.ite_pos hb ?_
            have := ih (swap l i c) c (by rw [swap_length]; omega) (by rw [swap_length]; omega) (by omega)
            rw [swap_length] at this
            exact this
          · rw [if_neg hb]
            exact Ev.ite_neg hb (Ev.ite_pos (by omega) Ev.some)
        refine Ev.step (fun k => by simp only [impl_QueueTake.j2]; rfl) ?_
        rw [wrap_kid1 (by omega)]
        cases b
        · exact Ev.ite_neg (by simp) (one (2 * i + 1) hk (by omega))
        · exact Ev.ite_pos rfl (one (2 * i + 2) (hb rfl) (by omega))
      have fin : ∀ b : Bool, (if b = true then 2 * i + 2 else 2 * i + 1 : Nat) = kid l i → ((if before (rd_I_Job l ((if b = true then 2 * i + 2 else 2 * i + 1 : Nat) : Int)) (rd_I_Job l (i : Int)) = true then dn d (swap l i (if b = true then 2 * i + 2 else 2 * i + 1)) (if b = true then 2 * i + 2 else 2 * i + 1) else l, (rd_I_Job l0 0).f0, (rd_I_Job l0 0).f1, true) : List I_Job × Int × Int × Bool) = (dn (d + 1) l i, (rd_I_Job l0 0).f0, (rd_I_Job l0 0).f1, true) := by
        intro b e
        rw [e, dn]
        by_cases hb : before (rd_I_Job l ((kid l i : Nat) : Int)) (rd_I_Job l (i : Int)) = true
        · rw [if_pos hb, if_pos ⟨hk, hb⟩]
        · rw [if_neg hb, if_neg (fun h => hb h.2)]
      refine Ev.step (fun k => by simp only [impl_QueueTake.l0]; rfl) ?_
      rw [wrap_kid (by omega), wrap_kid1 (by omega)]
      refine Ev.ite_pos (by omega) ?_
      by_cases h2 : 2 * i + 2 < l.length
      · refine Ev.ite_pos (by omega) (Ev.ite_pos (by omega) (Ev.ite_pos (by omega) (Ev.ite_pos (by omega) (Ev.ite_pos (by omega) (Ev.bind (Ev.cst (implBefore_ev _ _)) (Ev.val (j2 _ (fun _ => h2)) (fin _ ?_)))))))
        unfold kid
        by_cases hb : before (rd_I_Job l ((2 * i + 2 : Nat) : Int)) (rd_I_Job l ((2 * i + 1 : Nat) : Int)) = true
        · rw [if_pos hb, if_pos ⟨h2, hb⟩]
        · rw [if_neg hb, if_neg (fun h => hb h.2)]
      · refine Ev.ite_neg (by omega) (Ev.val (j2 false (fun h => absurd h (by simp))) (fin false ?_))
        unfold kid
        rw [if_neg (by simp), if_neg (fun h => h2 h.1)]
    · refine Ev.step (fun k => by simp only [impl_QueueTake.l0]; rfl) ?_
      rw [wrap_kid (by omega)]
      exact Ev.val (Ev.ite_neg (by omega) (Ev.ite_pos (by omega) Ev.some)) (by rw [dn, if_neg (fun h : 2 * i + 1 < l.length ∧ _ => hk h.1)])
theorem implTake_ev (l : List I_Job) (hl : l.length ≤ 1048576) : Ev (fun k => impl_QueueTake.f k l) (qtake l) := by
  have hm : maxLen = 9223372036854775807 := rfl
  unfold impl_QueueTake.f
  have hj : ∀ b : Bool, (b = false → l.length ≠ 0) → Ev (fun k => impl_QueueTake.j0 k l l b) (if b = true then (l, 0, 0, false) else (rest l, (rd_I_Job l 0).f0, (rd_I_Job l 0).f1, true)) := by
    intro b h0
    refine Ev.step (fun k => by simp only [impl_QueueTake.j0]; rfl) ?_
    cases b
    · have h0 := h0 rfl
      rw [if_neg (by simp), wrap_last (by omega) h0]
      refine Ev.ite_neg (by simp) (Ev.ite_pos (by omega) (Ev.ite_pos (by omega) (Ev.ite_pos (by omega) (Ev.ite_pos (by omega) ?_))))
      have := implDn_ev l (by omega) l.length ((l.set 0 (rd_I_Job l ((l.length - 1 : Nat) : Int))).take (l.length - 1)) 0 (by simp) (by simp; omega) (by omega)
      have e : ((l.set 0 (rd_I_Job l ((l.length - 1 : Nat) : Int))).take (l.length - 1)).length = l.length - 1 := by simp
      rw [e] at this
      exact this
    · exact Ev.ite_pos rfl Ev.some
  refine Ev.bind (Ev.cst (implClone_ev l (by omega))) (Ev.bind (implQueueOk_ev l (by omega)) ?_)
  unfold qtake
  by_cases h : qok l (l.length - 1) 1 = true
  · refine Ev.ite_pos h (Ev.val (hj _ (fun e h0 => by rw [h0] at e; exact absurd e (by decide))) ?_)
    by_cases h6 : l.length = 0
    · rw [if_pos (by simp [h6]), if_neg (fun e => e.2 h6)]
    · rw [if_neg (fun e => by have := beq_iff_eq.1 e; omega), if_pos ⟨h, h6⟩]
  · refine Ev.ite_neg h (Ev.val (hj _ (fun e => by cases e)) ?_)
    rw [if_pos rfl, if_neg (fun e => h e.1)]
/-! #### heaps -/
def le (x y : I_Job) : Prop := x.f0 < y.f0 ∨ (x.f0 = y.f0 ∧ x.f1 ≤ y.f1)
theorem before_iff (x y : I_Job) : before x y = true ↔ (x.f0 < y.f0 ∨ (x.f0 = y.f0 ∧ x.f1 < y.f1)) := by
  unfold before
  split
  · simp_all
  · split
    · simp_all
    · simp; omega
theorem not_before (x y : I_Job) : ¬ before y x = true ↔ le x y := by
  rw [before_iff]
  unfold le
  omega
theorem before_le {x y : I_Job} (h : before x y = true) : le x y := by
  rw [before_iff] at h
  unfold le
  omega
theorem le_trans {x y z : I_Job} (h : le x y) (k : le y z) : le x z := by
  unfold le at *
  omega
theorem le_refl (x : I_Job) : le x x := by unfold le; omega
theorem le_before {x y z : I_Job} (h : before x y = true) (k : le y z) : before x z = true := by
  rw [before_iff] at *
  unfold le at k
  omega
theorem le_ne {x y : I_Job} (h : le x y) (k : x ≠ y) : before x y = true := by
  rw [before_iff]
  unfold le at h
  obtain ⟨a, b⟩ := x
  obtain ⟨c, d⟩ := y
  simp only at h ⊢
  have : ¬ (a = c ∧ b = d) := fun e => k (by rw [e.1, e.2])
  omega
def el (l : List I_Job) (n : Nat) : I_Job := rd_I_Job l (n : Int)
theorem el_get {l : List I_Job} {n : Nat} (h : n < l.length) : el l n = l[n] := by
  show l.getD n zI_Job = _
  rw [List.getD_eq_getElem?_getD, List.getElem?_eq_getElem h]
  rfl
theorem el_swap {l : List I_Job} {i j m : Nat} (hi : i < l.length) (hj : j < l.length) (hm : m < l.length) : el (swap l i j) m = if m = j then el l i else if m = i then el l j else el l m := by
  rw [el_get (by rw [swap_length]; exact hm)]
  unfold swap
  rw [List.getElem_set]
  by_cases h : j = m
  · rw [if_pos h, if_pos h.symm]; rfl
  · rw [if_neg h, if_neg (fun e => h e.symm), List.getElem_set]
    by_cases k : i = m
    · rw [if_pos k, if_pos k.symm]; rfl
    · rw [if_neg k, if_neg (fun e => k e.symm), el_get hm]
theorem swap_perm {l : List I_Job} {i j : Nat} (hi : i < l.length) (hj : j < l.length) : (swap l i j).Perm l := by
  have := @List.set_set_perm _ l i j hi hj
  rw [← el_get hi, ← el_get hj] at this
  exact this
def Heap (l : List I_Job) : Prop := ∀ m, 1 ≤ m → m < l.length → le (el l (par m)) (el l m)
theorem qok_spec (l : List I_Job) : ∀ d n : Nat, 1 ≤ n → l.length - n = d → (qok l d n = true ↔ (l.length ≤ 60 ∧ ∀ m, n ≤ m → m < l.length → le (el l (par m)) (el l m))) := by
  intro d
  induction d with
  | zero =>
    intro n h1 hn
    rw [qok, decide_eq_true_iff]
    exact ⟨fun h => ⟨by omega, fun m a b => by omega⟩, fun h => by omega⟩
  | succ d ih =>
    intro n h1 hn
    rw [qok]
    by_cases hb : before (rd_I_Job l (n : Int)) (rd_I_Job l ((par n : Nat) : Int)) = true
    · rw [if_pos hb]
      constructor
      · intro h; cases h
      · intro h
        exact absurd hb ((not_before _ _).2 (h.2 n (Nat.le_refl _) (by omega)))
    · rw [if_neg hb, ih (n + 1) (by omega) (by omega)]
      constructor
      · rintro ⟨h, k⟩
        refine ⟨h, fun m a b => ?_⟩
        by_cases e : m = n
        · subst e; exact (not_before _ _).1 hb
        · exact k m (by omega) b
      · rintro ⟨h, k⟩
        exact ⟨h, fun m a b => k m (by omega) b⟩
theorem qok_heap {l : List I_Job} (h : Heap l) (hl : l.length ≤ 60) : qok l (l.length - 1) 1 = true := (qok_spec l _ 1 (by omega) rfl).2 ⟨hl, h⟩
theorem up_heap : ∀ (d : Nat) (l : List I_Job) (n : Nat), n ≤ d → n < l.length → (∀ m, 1 ≤ m → m < l.length → m ≠ n → le (el l (par m)) (el l m)) → (0 < n → ∀ m, 1 ≤ m → m < l.length → par m = n → le (el l (par n)) (el l m)) → Heap (up d l n) ∧ (up d l n).Perm l := by
  intro d
  induction d with
  | zero =>
    intro l n hn hl h1 h2
    obtain rfl : n = 0 := by omega
    exact ⟨fun m a b => h1 m a b (by omega), List.Perm.refl _⟩
  | succ d ih =>
    intro l n hn hl h1 h2
    rw [up]
    by_cases hc : 0 < n ∧ before (rd_I_Job l (n : Int)) (rd_I_Job l ((par n : Nat) : Int)) = true
    · rw [if_pos hc]
      obtain ⟨h0, hb⟩ := hc
      have hp : par n < n := by unfold par; omega
      have hbl : le (el l n) (el l (par n)) := before_le hb
      have hs : ∀ m, m < l.length → el (swap l n (par n)) m = if m = par n then el l n else if m = n then el l (par n) else el l m := fun m hm => el_swap hl (by omega) hm
      have := ih (swap l n (par n)) (par n) (by omega) (by rw [swap_length]; omega) ?_ ?_
      · exact ⟨this.1, this.2.trans (swap_perm hl (by omega))⟩
      · intro m a b hm
        rw [swap_length] at b
        have hpm : par m < m := by unfold par; omega
        rw [hs m b, hs (par m) (by omega), if_neg hm]
        by_cases e : m = n
        · subst e
          rw [if_pos rfl, if_pos rfl]
          exact hbl
        · rw [if_neg e]
          by_cases e1 : par m = par n
          · rw [if_pos e1]
            have := h1 m a b e
            rw [e1] at this
            exact le_trans hbl this
          · rw [if_neg e1]
            by_cases e2 : par m = n
            · rw [if_pos e2]
              exact h2 h0 m a b e2
            · rw [if_neg e2]
              exact h1 m a b e
      · intro hp0 m a b hm
        rw [swap_length] at b
        have hpp : par (par n) < par n := by unfold par at *; omega
        have hpm : par m < m := by unfold par; omega
        rw [hs (par (par n)) (by omega), if_neg (by omega), if_neg (by omega), hs m b, if_neg (by omega)]
        have h3 := h1 (par n) (by omega) (by omega) (by omega)
        by_cases e : m = n
        · rw [if_pos e]; exact h3
        · rw [if_neg e]
          have := h1 m a b e
          rw [hm] at this
          exact le_trans h3 this
    · rw [if_neg hc]
      refine ⟨fun m a b => ?_, List.Perm.refl _⟩
      by_cases e : m = n
      · subst e
        exact (not_before _ _).1 (fun hb => hc ⟨by omega, hb⟩)
      · exact h1 m a b e
theorem kid_spec {l : List I_Job} {i : Nat} (h : 2 * i + 1 < l.length) : 1 ≤ kid l i ∧ par (kid l i) = i ∧ ∀ m, 1 ≤ m → m < l.length → par m = i → le (el l (kid l i)) (el l m) := by
  have hm : ∀ m, 1 ≤ m → par m = i → m = 2 * i + 1 ∨ m = 2 * i + 2 := by intro m a b; unfold par at b; omega
  unfold kid
  by_cases hb : 2 * i + 2 < l.length ∧ before (rd_I_Job l ((2 * i + 2 : Nat) : Int)) (rd_I_Job l ((2 * i + 1 : Nat) : Int)) = true
  · rw [if_pos hb]
    refine ⟨by omega, by unfold par; omega, fun m a b c => ?_⟩
    rcases hm m a c with rfl | rfl
    · exact before_le hb.2
    · exact le_refl _
  · rw [if_neg hb]
    refine ⟨by omega, by unfold par; omega, fun m a b c => ?_⟩
    rcases hm m a c with rfl | rfl
    · exact le_refl _
    · exact (not_before _ _).1 (fun e => hb ⟨b, e⟩)
theorem dn_heap : ∀ (d : Nat) (l : List I_Job) (i : Nat), l.length ≤ i + d → (∀ m, 1 ≤ m → m < l.length → par m ≠ i → le (el l (par m)) (el l m)) → (0 < i → ∀ m, 1 ≤ m → m < l.length → par m = i → le (el l (par i)) (el l m)) → Heap (dn d l i) ∧ (dn d l i).Perm l := by
  intro d
  induction d with
  | zero =>
    intro l i hd h1 h2
    refine ⟨fun m a b => ?_, List.Perm.refl _⟩
    have b : m < l.length := b
    exact h1 m a b (by unfold par; omega)
  | succ d ih =>
    intro l i hd h1 h2
    rw [dn]
    by_cases hc : 2 * i + 1 < l.length ∧ before (rd_I_Job l ((kid l i : Nat) : Int)) (rd_I_Job l (i : Int)) = true
    · rw [if_pos hc]
      obtain ⟨h0, hb⟩ := hc
      obtain ⟨k1, k2, k3⟩ := kid_spec h0
      obtain ⟨k4, k5⟩ := kid_lt h0
      generalize kid l i = c at *
      have hbl : le (el l c) (el l i) := before_le hb
      have hs : ∀ m, m < l.length → el (swap l i c) m = if m = c then el l i else if m = i then el l c else el l m := fun m hm => el_swap (by omega) k4 hm
      have := ih (swap l i c) c (by rw [swap_length]; omega) ?_ ?_
      · exact ⟨this.1, this.2.trans (swap_perm (by omega) k4)⟩
      · intro m a b hm
        rw [swap_length] at b
        have hpm : par m < m := by unfold par; omega
        rw [hs m b, hs (par m) (by omega), if_neg hm]
        by_cases e : m = c
        · subst e
          rw [if_pos rfl, if_pos k2]
          exact hbl
        · rw [if_neg e]
          by_cases e1 : par m = i
          · rw [if_pos e1, if_neg (by omega)]
            exact k3 m a b e1
          · rw [if_neg e1]
            by_cases e2 : m = i
            · subst e2
              rw [if_pos rfl]
              exact h2 (by omega) c k1 k4 k2
            · rw [if_neg e2]
              exact h1 m a b e1
      · intro hp0 m a b hm
        rw [swap_length] at b
        have hpm : par m < m := by unfold par; omega
        rw [k2, hs i (by omega), if_neg (by omega), if_pos rfl, hs m b, if_neg (by omega), if_neg (by omega)]
        have := h1 m a b (by omega)
        rw [hm] at this
        exact this
    · rw [if_neg hc]
      refine ⟨fun m a b => ?_, List.Perm.refl _⟩
      by_cases e : par m = i
      · have h0 : 2 * i + 1 < l.length := by unfold par at e; omega
        obtain ⟨k1, k2, k3⟩ := kid_spec h0
        rw [e]
        exact le_trans ((not_before _ _).1 (fun hb => hc ⟨h0, hb⟩)) (k3 m a b e)
      · exact h1 m a b e
theorem el_append {l : List I_Job} {x : I_Job} {m : Nat} (h : m < l.length) : el (l ++ [x]) m = el l m := by
  rw [el_get h, el_get (by simp; omega), List.getElem_append_left h]
theorem qput_heap {l : List I_Job} (x : I_Job) (h : Heap l) (hl : l.length < 60) : (qput l x).2 = true ∧ Heap (qput l x).1 ∧ (qput l x).1.Perm (x :: l) := by
  unfold qput
  rw [if_pos ⟨qok_heap h (by omega), by omega⟩]
  have := up_heap l.length (l ++ [x]) l.length (Nat.le_refl _) (by simp) ?_ ?_
  · exact ⟨rfl, this.1, this.2.trans (List.perm_append_singleton _ _)⟩
  · intro m a b e
    rw [List.length_append, List.length_singleton] at b
    have hp : par m < m := by unfold par; omega
    rw [el_append (by omega), el_append (by omega)]
    exact h m a (by omega)
  · intro _ m a b e
    rw [List.length_append, List.length_singleton] at b
    unfold par at e
    omega
theorem heap_least {l : List I_Job} (h : Heap l) : ∀ m, m < l.length → le (el l 0) (el l m) := by
  intro m
  induction m using Nat.strongRecOn with
  | _ m ih =>
  intro hm
  by_cases e : m = 0
  · subst e; exact le_refl _
  · have hp : par m < m := by unfold par; omega
    exact le_trans (ih (par m) hp (by omega)) (h m (by omega) hm)
theorem rest_heap {l : List I_Job} (h : Heap l) (h0 : l.length ≠ 0) : Heap (rest l) ∧ (el l 0 :: rest l).Perm l := by
  have hlen : ((l.set 0 (rd_I_Job l ((l.length - 1 : Nat) : Int))).take (l.length - 1)).length = l.length - 1 := by simp
  have hel : ∀ m, 1 ≤ m → m < l.length - 1 → el ((l.set 0 (rd_I_Job l ((l.length - 1 : Nat) : Int))).take (l.length - 1)) m = el l m := by
    intro m a b
    rw [el_get (by rw [hlen]; exact b), List.getElem_take, List.getElem_set, if_neg (by omega), el_get (by omega)]
  have := dn_heap l.length ((l.set 0 (rd_I_Job l ((l.length - 1 : Nat) : Int))).take (l.length - 1)) 0 (by rw [hlen]; omega) ?_ (fun e => absurd e (by omega))
  · refine ⟨this.1, (List.Perm.cons _ this.2).trans ?_⟩
    cases l with
    | nil => exact absurd rfl h0
    | cons x t =>
      have e1 : el (x :: t) 0 = x := rfl
      rw [e1]
      rcases List.eq_nil_or_concat t with rfl | ⟨init, y, rfl⟩
      · exact List.Perm.refl _
      · have e2 : rd_I_Job (x :: init.concat y) (((x :: init.concat y).length - 1 : Nat) : Int) = y := by
          show el (x :: init.concat y) _ = y
          rw [el_get (by simp)]
          simp
        rw [e2]
        have e3 : ((x :: init.concat y).set 0 y).take ((x :: init.concat y).length - 1) = y :: init := by simp
        rw [e3, List.concat_eq_append]
        exact List.Perm.cons _ (List.perm_append_singleton _ _).symm
  · intro m a b e
    rw [hlen] at b
    have hp : par m < m := by unfold par; omega
    rw [hel m a b, hel (par m) (by omega) (by omega)]
    exact h m a (by omega)
def sm : List I_Job → Int
  | [] => 0
  | x :: l => x.f1 + sm l
theorem sm_perm {l m : List I_Job} (h : l.Perm m) : sm l = sm m := by
  induction h with
  | nil => rfl
  | cons x _ ih => simp only [sm]; omega
  | swap x y l => simp only [sm]; omega
  | trans _ _ h1 h2 => exact h1.trans h2
theorem sm_bound : ∀ l : List I_Job, (∀ y ∈ l, 0 ≤ y.f1 ∧ y.f1 < 20) → 0 ≤ sm l ∧ sm l ≤ 20 * (l.length : Int) := by
  intro l
  induction l with
  | nil => intro _; simp [sm]
  | cons x l ih =>
    intro h
    have h1 := h x (by simp)
    have h2 := ih (fun y hy => h y (by simp [hy]))
    simp only [sm, List.length_cons]
    omega
theorem at_ev (l : List Int) (i : Nat) (hi : i < 20) (hl : l.length ≤ 1048576) (hw : ∀ x ∈ l, (Lit.int .u8 x).wf = true) : ∃ v : Int, 0 ≤ v ∧ laws_at.f l (i : Int) = some v := by
  unfold laws_at.f
  by_cases h : (i : Int) < (l.length : Int)
  · rw [if_pos h, if_pos (by omega)]
    refine ⟨_, ?_, rfl⟩
    have hx := hw (rd l (i : Int)) (getD_mem l 0 i (by omega))
    have h1 : IntKind.u8.min = 0 := rfl
    have h2 : IntKind.u8.max = 255 := rfl
    simp only [Lit.wf, Bool.and_eq_true, decide_eq_true_eq] at hx
    have hx : 0 ≤ rd l (i : Int) ∧ rd l (i : Int) ≤ 255 := by omega
    rw [wrap_id (by omega) (by omega)]
    exact hx.1
  · rw [if_neg h]
    refine ⟨_, Int.tmod_nonneg _ ?_, rfl⟩
    rw [wrap_id (x := (i : Int) * 7) (by omega) (by omega), wrap_id (by omega) (by omega)]
    omega
theorem FnLeastFirst : laws_FnLeastFirst.Pure := by
  intro c hc _ hw
  refine Ev.rounds (g := fun k => laws_FnLeastFirst.f k c) ?_
  unfold laws_FnLeastFirst.f laws_big.f
  have hm : maxLen = 9223372036854775807 := rfl
  refine Ev.bind Ev.some ?_
  by_cases hb : (c.length : Int) > 1048576
  · exact Ev.ite_pos (decide_eq_true hb) Ev.some
  refine Ev.ite_neg (by simp; omega) (Ev.nxt ?_)
  simp only [laws_FnLeastFirst.j0]
  -- taking
  have take : ∀ d i : Nat, i + d = 20 → ∀ (l : List I_Job) (a b : Int), Heap l → l.length = d → l.Nodup → (∀ y ∈ l, 0 ≤ y.f1 ∧ y.f1 < 20) → (∀ y ∈ l, before ⟨a, b⟩ y = true) → Ev (fun k => laws_FnLeastFirst.l1 k l (sm l) (i : Int) a b) true := by
    intro d
    induction d with
    | zero =>
      intro i hi l a b hh hl hn hr hbf
      have hl0 : l = [] := List.eq_nil_of_length_eq_zero hl
      subst hl0
      refine Ev.step (fun k => by simp only [laws_FnLeastFirst.l1]; rfl) (Ev.ite_neg (by omega) (Ev.bind (implTake_ev [] (by simp)) ?_))
      have e : qtake [] = ([], 0, 0, false) := rfl
      rw [e]
      refine Ev.ite_pos rfl (Ev.ite_neg (by simp) (Ev.bind (implQueueOk_ev [] (by simp)) (Ev.bind (specQueueOk_ev [] (by simp)) ?_)))
      exact Ev.val Ev.some (by simp)
    | succ d ih =>
      intro i hi l a b hh hl hn hr hbf
      have h0 : l.length ≠ 0 := by omega
      obtain ⟨r1, r2⟩ := rest_heap hh h0
      have hmem : ∀ y, y ∈ el l 0 :: rest l ↔ y ∈ l := fun y => r2.mem_iff
      have hnd := (r2.nodup_iff).2 hn
      rw [List.nodup_cons] at hnd
      have hsm := sm_perm r2
      simp only [sm] at hsm
      have hx : el l 0 ∈ l := (hmem _).1 (by simp)
      have hxr := hr _ hx
      have hsb := sm_bound (rest l) (fun y hy => hr y ((hmem y).1 (by simp [hy])))
      have hrl : (rest l).length = d := by rw [rest_length, hl]; rfl
      refine Ev.step (fun k => by simp only [laws_FnLeastFirst.l1]; rfl) (Ev.ite_pos (by omega) (Ev.nxt ?_))
      simp only [laws_FnLeastFirst.j4]
      refine Ev.bind (implTake_ev l (by omega)) ?_
      have e : qtake l = (rest l, (el l 0).f0, (el l 0).f1, true) := by
        unfold qtake
        rw [if_pos ⟨qok_heap hh (by omega), h0⟩]
        rfl
      rw [e]
      refine Ev.ite_pos rfl (Ev.bind (Ev.cst (implBefore_ev ⟨a, b⟩ (el l 0))) (Ev.ite_pos (hbf _ hx) ?_))
      have es : wrap64 (sm l - (el l 0).f1) = sm (rest l) := by
        rw [← hsm, wrap_id (by omega) (by omega)]
        omega
      rw [show wrap64 ((i : Int) + 1) = ((i + 1 : Nat) : Int) from wrap_nat (by omega)]
      show Ev (fun k => laws_FnLeastFirst.l1 k (rest l) (wrap64 (sm l - (el l 0).f1)) ((i + 1 : Nat) : Int) (el l 0).f0 (el l 0).f1) true
      rw [es]
      refine ih (i + 1) (by omega) (rest l) _ _ r1 hrl hnd.2 (fun y hy => hr y ((hmem y).1 (by simp [hy]))) (fun y hy => ?_)
      have hy' : y ∈ l := (hmem y).1 (by simp [hy])
      refine le_ne ?_ (fun e' => hnd.1 (by rw [show el l 0 = y from e']; exact hy))
      obtain ⟨m, hm1, hm2⟩ := List.getElem_of_mem hy'
      have := heap_least hh m hm1
      rw [el_get hm1, hm2] at this
      exact this
  -- putting
  have put : ∀ d i : Nat, i + d = 20 → ∀ l : List I_Job, Heap l → l.length = i → l.Nodup → (∀ y ∈ l, 0 ≤ y.f0 ∧ 0 ≤ y.f1 ∧ y.f1 < (i : Int)) → Ev (fun k => laws_FnLeastFirst.l0 k c l (sm l) (i : Int)) true := by
    intro d
    induction d with
    | zero =>
      intro i hi l hh hl hn hr
      refine Ev.step (fun k => by simp only [laws_FnLeastFirst.l0]; rfl) (Ev.ite_neg (by omega) ?_)
      refine take 20 0 rfl l _ _ hh (by omega) hn (fun y hy => ⟨(hr y hy).2.1, by have := (hr y hy).2.2; omega⟩) (fun y hy => ?_)
      rw [before_iff]
      have := (hr y hy).1
      left
      show (-1 : Int) < y.f0
      omega
    | succ d ih =>
      intro i hi l hh hl hn hr
      obtain ⟨v, hv0, hv⟩ := at_ev c i (by omega) (by omega) hw
      refine Ev.step (fun k => by simp only [laws_FnLeastFirst.l0]; rfl) (Ev.ite_pos (by omega) (Ev.nxt ?_))
      simp only [laws_FnLeastFirst.j2]
      refine Ev.bind (Ev.cst hv) (Ev.bind (implPut_ev l ⟨Int.tmod v 7, (i : Int)⟩ (by omega)) ?_)
      obtain ⟨p1, p2, p3⟩ := qput_heap (⟨Int.tmod v 7, (i : Int)⟩ : I_Job) hh (by omega)
      have hsm := sm_perm p3
      simp only [sm] at hsm
      have hsb := sm_bound l (fun y hy => ⟨(hr y hy).2.1, by have := (hr y hy).2.2; omega⟩)
      refine Ev.ite_pos p1 ?_
      rw [show wrap64 ((i : Int) + 1) = ((i + 1 : Nat) : Int) from wrap_nat (by omega), wrap_id (by omega) (by omega)]
      have es : sm l + (i : Int) = sm (qput l ⟨Int.tmod v 7, (i : Int)⟩).1 := by omega
      rw [es]
      refine ih (i + 1) (by omega) _ p2 (by rw [p3.length_eq, List.length_cons, hl]) ?_ ?_
      · refine (p3.nodup_iff).2 (List.nodup_cons.2 ⟨fun hx => ?_, hn⟩)
        have := (hr _ hx).2.2
        simp only at this
        omega
      · intro y hy
        rcases List.mem_cons.1 (p3.mem_iff.1 hy) with rfl | hy
        · refine ⟨Int.tmod_nonneg _ hv0, ?_, ?_⟩
          · show 0 ≤ (i : Int); omega
          · show (i : Int) < ((i + 1 : Nat) : Int); omega
        · have := hr y hy
          omega
  exact put 20 0 rfl [] (fun m a b => by simp at b) rfl List.nodup_nil (fun y hy => by simp at hy)
end Go.Proofs.Ytlgoindmpejgcaa.Pure
