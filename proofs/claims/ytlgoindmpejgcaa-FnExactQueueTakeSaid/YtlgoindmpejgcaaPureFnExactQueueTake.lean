/- The program's QueueTake returns what the reference's returns, for all arguments. -/
import Derived.Test.YtlgoindmpejgcaaXQueueTakeh
namespace Go.Proofs.Ytlgoindmpejgcaa.Pure
open Go.RowKit Go.Proofs.Ytlgoindmpejgcaa.XQueueTake Go.Proofs.Ytlgoindmpejgcaa.XPure Go.Proofs.YtlgoindmpejgcaaW.PrintWords Go.Proofs.YtlgoindmpejgcaaW.PrintLast Go.Proofs.YtlgoindmpejgcaaW.PrintMore
set_option linter.unusedVariables false
set_option linter.unusedSimpArgs false
def before (x y : I_Job) : Bool := if x.f0 < y.f0 then true else if x.f0 = y.f0 then decide (x.f1 < y.f1) else false
theorem specBefore_ev (x y : I_Job) : spec_JobBefore.f x.f0 x.f1 y.f0 y.f1 = some (before x y) := by
  unfold spec_JobBefore.f before
  split
  · rfl
  · split <;> rfl
theorem implBefore_ev (x y : I_Job) : impl_JobBefore.f x.f0 x.f1 y.f0 y.f1 = some (before x y) := by
  unfold impl_JobBefore.f before
  split
  · rfl
  · split <;> rfl
theorem elJobS_len {l : List I_Job} (h : el_JobS l ≤ maxLen) : l.length ≤ maxLen := by unfold el_JobS at h; omega
def par (n : Nat) : Nat := (n - 1) / 2
theorem wrap_par {n : Nat} (h1 : 1 ≤ n) (h : n ≤ maxLen) : wrap64 (Int.tdiv (wrap64 ((n : Int) - 1)) 2) = ((par n : Nat) : Int) := by
  have hm : maxLen = 9223372036854775807 := rfl
  have e : (n : Int) - 1 = ((n - 1 : Nat) : Int) := by omega
  rw [e, wrap_id (x := ((n - 1 : Nat) : Int)) (by omega) (by omega)]
  have e2 : Int.tdiv ((n - 1 : Nat) : Int) 2 = (((n - 1) / 2 : Nat) : Int) := rfl
  rw [e2, wrap_id (by omega) (by omega)]
  rfl
def qok (l : List I_Job) : Nat → Nat → Bool
  | 0, _ => decide ((l.length : Int) ≤ 60)
  | d + 1, n => if before (rd_I_Job l (n : Int)) (rd_I_Job l ((par n : Nat) : Int)) = true then false else qok l d (n + 1)
theorem specQueueOk_l (l : List I_Job) (hl : l.length ≤ maxLen) : ∀ d n : Nat, 1 ≤ n → l.length - n = d → Ev (fun k => spec_QueueOk.l0 k l (n : Int)) (qok l d n) := by
  intro d
  induction d with
  | zero =>
    intro n h1 hn
    exact Ev.step (fun k => by simp only [spec_QueueOk.l0]; rfl) (Ev.ite_neg (by omega) Ev.some)
  | succ d ih =>
    intro n h1 hn
    refine Ev.step (fun k => by simp only [spec_QueueOk.l0]; rfl) (Ev.ite_pos (by omega) (Ev.ite_pos (by omega) ?_))
    rw [wrap_par h1 (by omega), wrap_nat (by omega)]
    have hp : par n < n := by unfold par; omega
    refine Ev.ite_pos (by omega) (Ev.ite_pos (by omega) (Ev.bind (Ev.cst (specBefore_ev _ _)) ?_))
    rw [qok]
    by_cases h : before (rd_I_Job l (n : Int)) (rd_I_Job l ((par n : Nat) : Int)) = true
    · rw [if_pos h]; exact Ev.ite_pos h Ev.some
    · rw [if_neg h]; exact Ev.ite_neg h (ih _ (by omega) (by omega))
theorem implQueueOk_l (l : List I_Job) (hl : l.length ≤ maxLen) : ∀ d n : Nat, 1 ≤ n → l.length - n = d → Ev (fun k => impl_QueueOk.l0 k l (n : Int)) (qok l d n) := by
  intro d
  induction d with
  | zero =>
    intro n h1 hn
    exact Ev.step (fun k => by simp only [impl_QueueOk.l0]; rfl) (Ev.ite_neg (by omega) Ev.some)
  | succ d ih =>
    intro n h1 hn
    refine Ev.step (fun k => by simp only [impl_QueueOk.l0]; rfl) (Ev.ite_pos (by omega) (Ev.ite_pos (by omega) ?_))
    rw [wrap_par h1 (by omega), wrap_nat (by omega)]
    have hp : par n < n := by unfold par; omega
    refine Ev.ite_pos (by omega) (Ev.ite_pos (by omega) (Ev.bind (Ev.cst (implBefore_ev _ _)) ?_))
    rw [qok]
    by_cases h : before (rd_I_Job l (n : Int)) (rd_I_Job l ((par n : Nat) : Int)) = true
    · rw [if_pos h]; exact Ev.ite_pos h Ev.some
    · rw [if_neg h]; exact Ev.ite_neg h (ih _ (by omega) (by omega))
theorem specQueueOk_ev (l : List I_Job) (hl : l.length ≤ maxLen) : Ev (fun k => spec_QueueOk.f k l) (qok l (l.length - 1) 1) := by
  unfold spec_QueueOk.f
  exact specQueueOk_l l hl (l.length - 1) 1 (by omega) rfl
theorem implQueueOk_ev (l : List I_Job) (hl : l.length ≤ maxLen) : Ev (fun k => impl_QueueOk.f k l) (qok l (l.length - 1) 1) := by
  unfold impl_QueueOk.f
  exact implQueueOk_l l hl (l.length - 1) 1 (by omega) rfl
theorem qok_len (l : List I_Job) : ∀ d n : Nat, qok l d n = true → l.length ≤ 60 := by
  intro d
  induction d with
  | zero => intro n h; rw [qok] at h; have := of_decide_eq_true h; omega
  | succ d ih =>
    intro n h
    rw [qok] at h
    split at h
    · cases h
    · exact ih _ h
def swap (l : List I_Job) (i j : Nat) : List I_Job := (l.set i (rd_I_Job l (j : Int))).set j (rd_I_Job l (i : Int))
theorem swap_length (l : List I_Job) (i j : Nat) : (swap l i j).length = l.length := by simp [swap]
def up : Nat → List I_Job → Nat → List I_Job
  | 0, l, _ => l
  | d + 1, l, n => if 0 < n ∧ before (rd_I_Job l (n : Int)) (rd_I_Job l ((par n : Nat) : Int)) = true then up d (swap l n (par n)) (par n) else l
theorem up_length : ∀ (d : Nat) (l : List I_Job) (n : Nat), (up d l n).length = l.length := by
  intro d
  induction d with
  | zero => intro l n; rfl
  | succ d ih =>
    intro l n
    rw [up]
    split
    · rw [ih, swap_length]
    · rfl
theorem up_zero (d : Nat) (l : List I_Job) : up d l 0 = l := by
  cases d with
  | zero => rfl
  | succ d => rw [up, if_neg (fun h => absurd h.1 (by omega))]
def qput (l : List I_Job) (x : I_Job) : List I_Job × Bool := if qok l (l.length - 1) 1 = true ∧ l.length ≠ 60 then (up l.length (l ++ [x]) l.length, true) else (l, false)
theorem qput_length (l : List I_Job) (x : I_Job) : (qput l x).1.length ≤ l.length + 1 := by
  unfold qput
  split
  · rw [up_length]; simp
  · exact Nat.le_succ _
def kid (l : List I_Job) (i : Nat) : Nat := if 2 * i + 2 < l.length ∧ before (rd_I_Job l ((2 * i + 2 : Nat) : Int)) (rd_I_Job l ((2 * i + 1 : Nat) : Int)) = true then 2 * i + 2 else 2 * i + 1
def dn : Nat → List I_Job → Nat → List I_Job
  | 0, l, _ => l
  | d + 1, l, i => if 2 * i + 1 < l.length ∧ before (rd_I_Job l ((kid l i : Nat) : Int)) (rd_I_Job l (i : Int)) = true then dn d (swap l i (kid l i)) (kid l i) else l
theorem dn_length : ∀ (d : Nat) (l : List I_Job) (n : Nat), (dn d l n).length = l.length := by
  intro d
  induction d with
  | zero => intro l n; rfl
  | succ d ih =>
    intro l n
    rw [dn]
    split
    · rw [ih, swap_length]
    · rfl
theorem wrap_kid {i : Nat} (h : i ≤ 2097152) : wrap64 (wrap64 (2 * (i : Int)) + 1) = ((2 * i + 1 : Nat) : Int) := by
  rw [wrap_id (x := 2 * (i : Int)) (by omega) (by omega), wrap_id (by omega) (by omega)]
  omega
theorem wrap_kid1 {i : Nat} (h : i ≤ 2097152) : wrap64 (((2 * i + 1 : Nat) : Int) + 1) = ((2 * i + 2 : Nat) : Int) := by
  rw [wrap_id (by omega) (by omega)]
  omega
theorem kid_lt {l : List I_Job} {i : Nat} (h : 2 * i + 1 < l.length) : kid l i < l.length ∧ i < kid l i := by
  unfold kid
  split <;> omega
def rest (l : List I_Job) : List I_Job := dn l.length ((l.set 0 (rd_I_Job l ((l.length - 1 : Nat) : Int))).take (l.length - 1)) 0
theorem rest_length (l : List I_Job) : (rest l).length = l.length - 1 := by
  unfold rest
  rw [dn_length]
  simp
def qtake (l : List I_Job) : List I_Job × Int × Int × Bool := if qok l (l.length - 1) 1 = true ∧ l.length ≠ 0 then (rest l, (rd_I_Job l 0).f0, (rd_I_Job l 0).f1, true) else (l, 0, 0, false)
theorem qtake_length (l : List I_Job) : (qtake l).1.length ≤ l.length := by
  unfold qtake
  split
  · show (rest l).length ≤ l.length
    rw [rest_length]; omega
  · exact Nat.le_refl _
theorem wrap_last {l : List I_Job} (h : l.length ≤ 1048577) (h0 : l.length ≠ 0) : wrap64 ((l.length : Int) - 1) = ((l.length - 1 : Nat) : Int) := by
  rw [wrap_id (by omega) (by omega)]
  omega
theorem turn_ev (l : List I_Job) (i j : Nat) (hi : i < l.length) (hj : j < l.length) : spec_l28Turn.f l (i : Int) (j : Int) = some (swap l i j) := by
  unfold spec_l28Turn.f
  rw [if_pos (by omega), if_pos (by omega), if_pos (by omega), if_pos (by omega)]
  rfl
theorem implClone_ev (l : List I_Job) (hl : l.length ≤ 1048577) : impl_Job.f l = some l := by
  unfold impl_Job.f
  rw [Option.bind_some, if_pos (by rw [List.length_nil]; omega)]
  rfl
theorem implDn_ev (l0 : List I_Job) (h0 : 0 < l0.length) : ∀ (d : Nat) (l : List I_Job) (i : Nat), l.length ≤ i + d → l.length ≤ 1048577 → i ≤ 1048577 → Ev (fun k => impl_QueueTake.l0 k l0 l (l.length : Int) (i : Int)) (dn d l i, (rd_I_Job l0 0).f0, (rd_I_Job l0 0).f1, true) := by
  intro d
  induction d with
  | zero =>
    intro l i hd hl hi
    refine Ev.step (fun k => by simp only [impl_QueueTake.l0]; rfl) ?_
    rw [wrap_kid (by omega)]
    exact Ev.ite_neg (by omega) (Ev.ite_pos (by omega) Ev.some)
  | succ d ih =>
    intro l i hd hl hi
    by_cases hk : 2 * i + 1 < l.length
    · have j2 : ∀ b : Bool, (b = true → 2 * i + 2 < l.length) → Ev (fun k => impl_QueueTake.j2 k l0 l (l.length : Int) (i : Int) ((2 * i + 1 : Nat) : Int) b) (if before (rd_I_Job l ((if b = true then 2 * i + 2 else 2 * i + 1 : Nat) : Int)) (rd_I_Job l (i : Int)) = true then dn d (swap l i (if b = true then 2 * i + 2 else 2 * i + 1)) (if b = true then 2 * i + 2 else 2 * i + 1) else l, (rd_I_Job l0 0).f0, (rd_I_Job l0 0).f1, true) := by
        intro b hb
        have one : ∀ c : Nat, c < l.length → i < c → Ev (fun k => if 0 ≤ (c : Int) then (if (c : Int) < (l.length : Int) then (if 0 ≤ (i : Int) then (if (i : Int) < (l.length : Int) then ((impl_JobBefore.f ((rd_I_Job l (c : Int)).f0) ((rd_I_Job l (c : Int)).f1) ((rd_I_Job l (i : Int)).f0) ((rd_I_Job l (i : Int)).f1)).bind fun t => (if t = true then (impl_QueueTake.l0 k l0 (swap l i c) (l.length : Int) (c : Int)) else (if 0 < (l0.length : Int) then (some (l, (rd_I_Job l0 0).f0, (rd_I_Job l0 0).f1, true)) else (none)))) else (none)) else (none)) else (none)) else (none)) (if before (rd_I_Job l (c : Int)) (rd_I_Job l (i : Int)) = true then dn d (swap l i c) c else l, (rd_I_Job l0 0).f0, (rd_I_Job l0 0).f1, true) := by
          intro c hc hi2
          refine Ev.ite_pos (by omega) (Ev.ite_pos (by omega) (Ev.ite_pos (by omega) (Ev.ite_pos (by omega) (Ev.bind (Ev.cst (implBefore_ev _ _)) ?_))))
          by_cases hb : before (rd_I_Job l (c : Int)) (rd_I_Job l (i : Int)) = true
          · rw [if_pos hb]
            refine Ev.ite_pos hb ?_
            have := ih (swap l i c) c (by rw [swap_length]; omega) (by rw [swap_length]; omega) (by omega)
            rw [swap_length] at this
            exact this
          · rw [if_neg hb]
            exact Ev.ite_neg hb (Ev.ite_pos (by omega) Ev.some)
        refine Ev.step (fun k => by simp only [impl_QueueTake.j2]; rfl) ?_
        rw [wrap_kid1 (by omega)]
        cases b
        · exact Ev.ite_neg (by simp) (one (2 * i + 1) hk (by omega))
        · exact Ev.ite_pos rfl (one (2 * i + 2) (hb rfl) (by omega))
      have fin : ∀ b : Bool, (if b = true then 2 * i + 2 else 2 * i + 1 : Nat) = kid l i → ((if before (rd_I_Job l ((if b = true then 2 * i + 2 else 2 * i + 1 : Nat) : Int)) (rd_I_Job l (i : Int)) = true then dn d (swap l i (if b = true then 2 * i + 2 else 2 * i + 1)) (if b = true then 2 * i + 2 else 2 * i + 1) else l, (rd_I_Job l0 0).f0, (rd_I_Job l0 0).f1, true) : List I_Job × Int × Int × Bool) = (dn (d + 1) l i, (rd_I_Job l0 0).f0, (rd_I_Job l0 0).f1, true) := by
        intro b e
        rw [e, dn]
        by_cases hb : before (rd_I_Job l ((kid l i : Nat) : Int)) (rd_I_Job l (i : Int)) = true
        · rw [if_pos hb, if_pos ⟨hk, hb⟩]
        · rw [if_neg hb, if_neg (fun h => hb h.2)]
      refine Ev.step (fun k => by simp only [impl_QueueTake.l0]; rfl) ?_
      rw [wrap_kid (by omega), wrap_kid1 (by omega)]
      refine Ev.ite_pos (by omega) ?_
      by_cases h2 : 2 * i + 2 < l.length
      · refine Ev.ite_pos (by omega) (Ev.ite_pos (by omega) (Ev.ite_pos (by omega) (Ev.ite_pos (by omega) (Ev.ite_pos (by omega) (Ev.bind (Ev.cst (implBefore_ev _ _)) (Ev.val (j2 _ (fun _ => h2)) (fin _ ?_)))))))
        unfold kid
        by_cases hb : before (rd_I_Job l ((2 * i + 2 : Nat) : Int)) (rd_I_Job l ((2 * i + 1 : Nat) : Int)) = true
        · rw [if_pos hb, if_pos ⟨h2, hb⟩]
        · rw [if_neg hb, if_neg (fun h => hb h.2)]
      · refine Ev.ite_neg (by omega) (Ev.val (j2 false (fun h => absurd h (by simp))) (fin false ?_))
        unfold kid
        rw [if_neg (by simp), if_neg (fun h => h2 h.1)]
    · refine Ev.step (fun k => by simp only [impl_QueueTake.l0]; rfl) ?_
      rw [wrap_kid (by omega)]
      exact Ev.val (Ev.ite_neg (by omega) (Ev.ite_pos (by omega) Ev.some)) (by rw [dn, if_neg (fun h : 2 * i + 1 < l.length ∧ _ => hk h.1)])
theorem implTake_ev (l : List I_Job) (hl : l.length ≤ 1048576) : Ev (fun k => impl_QueueTake.f k l) (qtake l) := by
  have hm : maxLen = 9223372036854775807 := rfl
  unfold impl_QueueTake.f
  have hj : ∀ b : Bool, (b = false → l.length ≠ 0) → Ev (fun k => impl_QueueTake.j0 k l l b) (if b = true then (l, 0, 0, false) else (rest l, (rd_I_Job l 0).f0, (rd_I_Job l 0).f1, true)) := by
    intro b h0
    refine Ev.step (fun k => by simp only [impl_QueueTake.j0]; rfl) ?_
    cases b
    · have h0 := h0 rfl
      rw [if_neg (by simp), wrap_last (by omega) h0]
      refine Ev.ite_neg (by simp) (Ev.ite_pos (by omega) (Ev.ite_pos (by omega) (Ev.ite_pos (by omega) (Ev.ite_pos (by omega) ?_))))
      have := implDn_ev l (by omega) l.length ((l.set 0 (rd_I_Job l ((l.length - 1 : Nat) : Int))).take (l.length - 1)) 0 (by simp) (by simp; omega) (by omega)
      have e : ((l.set 0 (rd_I_Job l ((l.length - 1 : Nat) : Int))).take (l.length - 1)).length = l.length - 1 := by simp
      rw [e] at this
      exact this
    · exact Ev.ite_pos rfl Ev.some
  refine Ev.bind (Ev.cst (implClone_ev l (by omega))) (Ev.bind (implQueueOk_ev l (by omega)) ?_)
  unfold qtake
  by_cases h : qok l (l.length - 1) 1 = true
  · refine Ev.ite_pos h (Ev.val (hj _ (fun e h0 => by rw [h0] at e; exact absurd e (by decide))) ?_)
    by_cases h6 : l.length = 0
    · rw [if_pos (by simp [h6]), if_neg (fun e => e.2 h6)]
    · rw [if_neg (fun e => by have := beq_iff_eq.1 e; omega), if_pos ⟨h, h6⟩]
  · refine Ev.ite_neg h (Ev.val (hj _ (fun e => by cases e)) ?_)
    rw [if_pos rfl, if_neg (fun e => h e.1)]
theorem specDn_ev (x : I_Job) : ∀ (d : Nat) (l : List I_Job) (i : Nat), l.length ≤ i + d → l.length ≤ 1048577 → i ≤ 1048577 → Ev (fun k => spec_QueueTake.l0 k l (i : Int) x.f0 x.f1) (dn d l i, x.f0, x.f1, true) := by
  intro d
  induction d with
  | zero =>
    intro l i hd hl hi
    refine Ev.step (fun k => by simp only [spec_QueueTake.l0]; rfl) ?_
    rw [wrap_kid (by omega)]
    exact Ev.ite_neg (by omega) Ev.some
  | succ d ih =>
    intro l i hd hl hi
    by_cases hk : 2 * i + 1 < l.length
    · have j3 : ∀ c : Nat, c < l.length → i < c → Ev (fun k => spec_QueueTake.j3 k l (i : Int) (c : Int) x.f0 x.f1) (if before (rd_I_Job l (c : Int)) (rd_I_Job l (i : Int)) = true then dn d (swap l i c) c else l, x.f0, x.f1, true) := by
        intro c hc hi2
        refine Ev.step (fun k => by simp only [spec_QueueTake.j3]; rfl) (Ev.ite_pos (by omega) (Ev.ite_pos (by omega) (Ev.ite_pos (by omega) (Ev.ite_pos (by omega) (Ev.bind (Ev.cst (specBefore_ev _ _)) ?_)))))
        by_cases hb : before (rd_I_Job l (c : Int)) (rd_I_Job l (i : Int)) = true
        · rw [if_pos hb]
          exact Ev.ite_pos hb (Ev.bind (Ev.cst (turn_ev l i c (by omega) hc)) (ih (swap l i c) c (by rw [swap_length]; omega) (by rw [swap_length]; omega) (by omega)))
        · rw [if_neg hb]
          exact Ev.ite_neg hb Ev.some
      have j2 : ∀ b : Bool, (b = true → 2 * i + 2 < l.length) → Ev (fun k => spec_QueueTake.j2 k l (i : Int) ((2 * i + 1 : Nat) : Int) b x.f0 x.f1) (if before (rd_I_Job l ((if b = true then 2 * i + 2 else 2 * i + 1 : Nat) : Int)) (rd_I_Job l (i : Int)) = true then dn d (swap l i (if b = true then 2 * i + 2 else 2 * i + 1)) (if b = true then 2 * i + 2 else 2 * i + 1) else l, x.f0, x.f1, true) := by
        intro b hb
        refine Ev.step (fun k => by simp only [spec_QueueTake.j2]; rfl) ?_
        rw [wrap_kid1 (by omega)]
        cases b
        · exact Ev.ite_neg (by simp) (j3 (2 * i + 1) hk (by omega))
        · exact Ev.ite_pos rfl (j3 (2 * i + 2) (hb rfl) (by omega))
      have fin : ∀ b : Bool, (if b = true then 2 * i + 2 else 2 * i + 1 : Nat) = kid l i → ((if before (rd_I_Job l ((if b = true then 2 * i + 2 else 2 * i + 1 : Nat) : Int)) (rd_I_Job l (i : Int)) = true then dn d (swap l i (if b = true then 2 * i + 2 else 2 * i + 1)) (if b = true then 2 * i + 2 else 2 * i + 1) else l, x.f0, x.f1, true) : List I_Job × Int × Int × Bool) = (dn (d + 1) l i, x.f0, x.f1, true) := by
        intro b e
        rw [e, dn]
        by_cases hb : before (rd_I_Job l ((kid l i : Nat) : Int)) (rd_I_Job l (i : Int)) = true
        · rw [if_pos hb, if_pos ⟨hk, hb⟩]
        · rw [if_neg hb, if_neg (fun h => hb h.2)]
      refine Ev.step (fun k => by simp only [spec_QueueTake.l0]; rfl) ?_
      rw [wrap_kid (by omega), wrap_kid1 (by omega)]
      refine Ev.ite_pos (by omega) ?_
      by_cases h2 : 2 * i + 2 < l.length
      · refine Ev.ite_pos (by omega) (Ev.ite_pos (by omega) (Ev.ite_pos (by omega) (Ev.bind (Ev.cst (specBefore_ev _ _)) (Ev.val (j2 _ (fun _ => h2)) (fin _ ?_)))))
        unfold kid
        by_cases hb : before (rd_I_Job l ((2 * i + 2 : Nat) : Int)) (rd_I_Job l ((2 * i + 1 : Nat) : Int)) = true
        · rw [if_pos hb, if_pos ⟨h2, hb⟩]
        · rw [if_neg hb, if_neg (fun h => hb h.2)]
      · refine Ev.ite_neg (by omega) (Ev.val (j2 false (fun h => absurd h (by simp))) (fin false ?_))
        unfold kid
        rw [if_neg (by simp), if_neg (fun h => h2 h.1)]
    · refine Ev.step (fun k => by simp only [spec_QueueTake.l0]; rfl) ?_
      rw [wrap_kid (by omega), dn, if_neg (fun h => hk h.1)]
      exact Ev.ite_neg (by omega) Ev.some
theorem specTake_ev (l : List I_Job) (hl : l.length ≤ 1048576) : Ev (fun k => spec_QueueTake.f k l) (qtake l) := by
  have hm : maxLen = 9223372036854775807 := rfl
  unfold spec_QueueTake.f
  have hj : ∀ b : Bool, (b = false → l.length ≠ 0) → Ev (fun k => spec_QueueTake.j0 k l l b) (if b = true then (l, 0, 0, false) else (rest l, (rd_I_Job l 0).f0, (rd_I_Job l 0).f1, true)) := by
    intro b h0
    refine Ev.step (fun k => by simp only [spec_QueueTake.j0]; rfl) ?_
    cases b
    · have h0 := h0 rfl
      rw [if_neg (by simp), wrap_last (by omega) h0]
      refine Ev.ite_neg (by simp) (Ev.ite_pos (by omega) (Ev.ite_pos (by omega) (Ev.ite_pos (by omega) (Ev.ite_pos (by omega) (Ev.bind Ev.some (Ev.ite_pos (by omega) (Ev.bind Ev.some (Ev.ite_pos (by simp; omega) ?_))))))))
      exact specDn_ev (rd_I_Job l 0) l.length ((l.set 0 (rd_I_Job l ((l.length - 1 : Nat) : Int))).take (l.length - 1)) 0 (by simp) (by simp; omega) (by omega)
    · exact Ev.ite_pos rfl Ev.some
  refine Ev.bind Ev.some (Ev.ite_pos (by rw [List.length_nil]; omega) (Ev.bind Ev.some (Ev.bind (specQueueOk_ev l (by omega)) ?_)))
  unfold qtake
  by_cases h : qok l (l.length - 1) 1 = true
  · refine Ev.ite_pos h (Ev.val (hj _ (fun e h0 => by rw [h0] at e; exact absurd e (by decide))) ?_)
    by_cases h6 : l.length = 0
    · rw [if_pos (by simp [h6]), if_neg (fun e => e.2 h6)]
    · rw [if_neg (fun e => by have := beq_iff_eq.1 e; omega), if_pos ⟨h, h6⟩]
  · refine Ev.ite_neg h (Ev.val (hj _ (fun e => by cases e)) ?_)
    rw [if_pos rfl, if_neg (fun e => h e.1)]
def oneJob (v : Int) : I_Job := ⟨v, v + 1⟩
theorem markJobS_ev (l : List I_Job) (v : Int) (hl : l.length ≤ 1048577) (h0 : 0 ≤ v) (hv : v ≤ 1048577) : Ev (fun k => laws_markJobS.f k l v) (v + (2 * l.length : Nat), mkL oneJob 2 v l.length) := by
  have hm : maxLen = 9223372036854775807 := rfl
  refine mark_loop oneJob 2 (fun k acc v i => laws_markJobS.l0 k acc v i) ?_ ?_ l (by omega) v h0 (by omega)
  · intro k acc v n hn hl h0 hv
    simp only [laws_markJobS.l0]
    rw [if_pos (by omega), if_pos (by omega), Option.bind_some, Int.toNat_natCast, wrap_nat (by omega), wrap_id (x := v + 1) (by omega) (by omega), wrap_id (by omega) (by omega), List.set_set]
    have e : rd_I_Job (acc.set n ⟨v, (rd_I_Job acc (n : Int)).f1⟩) (n : Int) = ⟨v, (rd_I_Job acc (n : Int)).f1⟩ := getD_set_self acc _ _ n hn
    rw [e, Int.add_assoc]
    rfl
  · intro k acc v
    simp only [laws_markJobS.l0]
    rw [if_neg (by omega)]
theorem heldJobS_ev (m : Nat) (v : Int) (hl : m ≤ 1048577) (h0 : 0 ≤ v) (hv : v ≤ 1048577) : Ev (fun k => laws_heldJobS.f k (mkL oneJob 2 v m) v) (v + (2 * m : Nat)) := by
  have hm : maxLen = 9223372036854775807 := rfl
  refine held_loop oneJob 2 zI_Job (fun k acc v i => laws_heldJobS.l0 k acc v i) ?_ ?_ m (by omega) v h0 (by omega)
  · intro k acc v n hn hl h0 hv e
    simp only [laws_heldJobS.l0]
    have e' : rd_I_Job acc (n : Int) = oneJob v := e
    rw [if_pos (by omega), if_pos (by omega), wrap_nat (by omega), wrap_id (x := v + 1) (by omega) (by omega), wrap_id (by omega) (by omega), e', if_pos (show (oneJob v).f0 = v from rfl), if_pos (show (oneJob v).f1 = v + 1 from rfl), Int.add_assoc]
    rfl
  · intro k acc v
    simp only [laws_heldJobS.l0]
    rw [if_neg (by omega)]
theorem FnExactQueueTake : laws_FnExactQueueTake.Pure := by
  intro l hl
  refine Ev.rounds (g := fun k => laws_FnExactQueueTake.f k l) ?_
  unfold laws_FnExactQueueTake.f
  have hm : maxLen = 9223372036854775807 := rfl
  refine law_sz (by omega) (by omega) (szJobS_ev l hl 1048576 (by omega) (by omega)) fun q1 a1 b1 S1 => ?_
  have K1 : el_JobS (cv_JobS l) ≤ 1048576 := by have := el_cv_JobS l; omega
  have E1 : el_JobS (cv_JobS l) ≤ maxLen := by omega
  have L1 : (cv_JobS l).length ≤ 1048576 := by have := K1; unfold el_JobS at this; omega
  have L2 : (qtake (cv_JobS l)).1.length ≤ 1048577 := by have := qtake_length (cv_JobS l); omega
  have R1 : el_JobS (qtake (cv_JobS l)).1 ≤ maxLen := by unfold el_JobS; rw [sum_zero _ el_Job (fun _ => rfl)]; omega
  refine Ev.nxt ?_
  simp only [laws_FnExactQueueTake.j0]
  refine Ev.bind (toJobS_ev _ (by first | exact S1 | trivial)) ?_
  refine Ev.bind (specTake_ev (cv_JobS l) L1) ?_
  refine Ev.bind (toJobS_ev _ (by first | exact S1 | trivial)) ?_
  refine Ev.bind (implTake_ev (cv_JobS l) L1) ?_
  refine Ev.bind (eqJobS_ev _ (by first | exact E1 | exact R1 | trivial)) (Ev.ite_pos rfl ?_)
  refine Ev.bind (eqJob_ev (⟨_, _⟩ : I_Job)) (Ev.ite_pos rfl ?_)
  refine Ev.nxt ?_
  simp only [laws_FnExactQueueTake.j1]
  refine Ev.ite_neg (by simp) ?_
  refine Ev.nxt ?_
  simp only [laws_FnExactQueueTake.j2]
  refine Ev.bind (toJobS_ev _ (by first | exact S1 | trivial)) ?_
  refine Ev.bind (eqJobS_ev _ (by first | exact E1 | exact R1 | trivial)) (Ev.ite_pos rfl ?_)
  refine Ev.nxt ?_
  simp only [laws_FnExactQueueTake.j3]
  refine Ev.bind (markJobS_ev _ _ (by first | omega) (by omega) (by omega)) ?_
  refine Ev.ite_neg (by first | omega | (dsimp only; omega)) ?_
  refine Ev.bind (eqJobS_ev _ (by first | exact E1 | exact R1 | trivial)) (Ev.ite_pos rfl ?_)
  refine Ev.bind (eqJob_ev (⟨_, _⟩ : I_Job)) (Ev.ite_pos rfl ?_)
  refine Ev.nxt ?_
  simp only [laws_FnExactQueueTake.j4]
  refine Ev.ite_neg (by simp) ?_
  refine Ev.nxt ?_
  simp only [laws_FnExactQueueTake.j5]
  refine Ev.bind (markJobS_ev _ _ (by first | omega) (by omega) (by omega)) ?_
  refine Ev.bind (heldJobS_ev _ _ (by first | omega) (by omega) (by omega)) ?_
  refine Ev.ite_neg (by first | omega | (dsimp only; omega)) ?_
  refine Ev.nxt ?_
  simp only [laws_FnExactQueueTake.j6]
  refine Ev.ite_pos (by first | rfl | (dsimp only; omega) | simp) ?_
  refine Ev.nxt ?_
  simp only [laws_FnExactQueueTake.j7]
  refine Ev.bind (toJobS_ev _ (by first | exact S1 | trivial)) ?_
  refine Ev.bind (implTake_ev (cv_JobS l) L1) ?_
  refine Ev.bind (eqJobS_ev _ (by first | exact E1 | exact R1 | trivial)) (Ev.ite_pos rfl ?_)
  refine Ev.bind (eqJob_ev (⟨_, _⟩ : I_Job)) (Ev.ite_pos rfl ?_)
  refine Ev.nxt ?_
  simp only [laws_FnExactQueueTake.j8]
  refine Ev.ite_neg (by simp) ?_
  refine Ev.nxt ?_
  simp only [laws_FnExactQueueTake.j9]
  refine Ev.bind (heldJobS_ev _ _ (by first | omega) (by omega) (by omega)) ?_
  refine Ev.ite_neg (by first | omega | (dsimp only; omega)) ?_
  refine Ev.ite_pos (by first | rfl | (dsimp only; omega) | simp) ?_
  exact Ev.some
end Go.Proofs.Ytlgoindmpejgcaa.Pure
