/- The program's QueuePut returns what the reference's returns, for all arguments. -/
import Derived.Test.YtlgoindmpejgcaaXQueuePuth
namespace Go.Proofs.Ytlgoindmpejgcaa.Pure
open Go.RowKit Go.Proofs.Ytlgoindmpejgcaa.XQueuePut Go.Proofs.Ytlgoindmpejgcaa.XPure Go.Proofs.YtlgoindmpejgcaaW.PrintWords Go.Proofs.YtlgoindmpejgcaaW.PrintLast Go.Proofs.YtlgoindmpejgcaaW.PrintMore
set_option linter.unusedVariables false
set_option linter.unusedSimpArgs false
def before (x y : I_Job) : Bool := if x.f0 < y.f0 then true else if x.f0 = y.f0 then decide (x.f1 < y.f1) else false
theorem specBefore_ev (x y : I_Job) : spec_JobBefore.f x.f0 x.f1 y.f0 y.f1 = some (before x y) := by
  unfold spec_JobBefore.f before
  split
  · rfl
  · split <;> rfl
theorem implBefore_ev (x y : I_Job) : impl_JobBefore.f x.f0 x.f1 y.f0 y.f1 = some (before x y) := by
  unfold impl_JobBefore.f before
  split
  · rfl
  · split <;> rfl
theorem elJobS_len {l : List I_Job} (h : el_JobS l ≤ maxLen) : l.length ≤ maxLen := by unfold el_JobS at h; omega
def par (n : Nat) : Nat := (n - 1) / 2
theorem wrap_par {n : Nat} (h1 : 1 ≤ n) (h : n ≤ maxLen) : wrap64 (Int.tdiv (wrap64 ((n : Int) - 1)) 2) = ((par n : Nat) : Int) := by
  have hm : maxLen = 9223372036854775807 := rfl
  have e : (n : Int) - 1 = ((n - 1 : Nat) : Int) := by omega
  rw [e, wrap_id (x := ((n - 1 : Nat) : Int)) (by omega) (by omega)]
  have e2 : Int.tdiv ((n - 1 : Nat) : Int) 2 = (((n - 1) / 2 : Nat) : Int) := rfl
  rw [e2, wrap_id (by omega) (by omega)]
  rfl
def qok (l : List I_Job) : Nat → Nat → Bool
  | 0, _ => decide ((l.length : Int) ≤ 60)
  | d + 1, n => if before (rd_I_Job l (n : Int)) (rd_I_Job l ((par n : Nat) : Int)) = true then false else qok l d (n + 1)
theorem specQueueOk_l (l : List I_Job) (hl : l.length ≤ maxLen) : ∀ d n : Nat, 1 ≤ n → l.length - n = d → Ev (fun k => spec_QueueOk.l0 k l (n : Int)) (qok l d n) := by
  intro d
  induction d with
  | zero =>
    intro n h1 hn
    exact Ev.step (fun k => by simp only [spec_QueueOk.l0]; rfl) (Ev.ite_neg (by omega) Ev.some)
  | succ d ih =>
    intro n h1 hn
    refine Ev.step (fun k => by simp only [spec_QueueOk.l0]; rfl) (Ev.ite_pos (by omega) (Ev.ite_pos (by omega) ?_))
    rw [wrap_par h1 (by omega), wrap_nat (by omega)]
    have hp : par n < n := by unfold par; omega
    refine Ev.ite_pos (by omega) (Ev.ite_pos (by omega) (Ev.bind (Ev.cst (specBefore_ev _ _)) ?_))
    rw [qok]
    by_cases h : before (rd_I_Job l (n : Int)) (rd_I_Job l ((par n : Nat) : Int)) = true
    · rw [if_pos h]; exact Ev.ite_pos h Ev.some
    · rw [if_neg h]; exact Ev.ite_neg h (ih _ (by omega) (by omega))
theorem implQueueOk_l (l : List I_Job) (hl : l.length ≤ maxLen) : ∀ d n : Nat, 1 ≤ n → l.length - n = d → Ev (fun k => impl_QueueOk.l0 k l (n : Int)) (qok l d n) := by
  intro d
  induction d with
  | zero =>
    intro n h1 hn
    exact Ev.step (fun k => by simp only [impl_QueueOk.l0]; rfl) (Ev.ite_neg (by omega) Ev.some)
  | succ d ih =>
    intro n h1 hn
    refine Ev.step (fun k => by simp only [impl_QueueOk.l0]; rfl) (Ev.ite_pos (by omega) (Ev.ite_pos (by omega) ?_))
    rw [wrap_par h1 (by omega), wrap_nat (by omega)]
    have hp : par n < n := by unfold par; omega
    refine Ev.ite_pos (by omega) (Ev.ite_pos (by omega) (Ev.bind (Ev.cst (implBefore_ev _ _)) ?_))
    rw [qok]
    by_cases h : before (rd_I_Job l (n : Int)) (rd_I_Job l ((par n : Nat) : Int)) = true
    · rw [if_pos h]; exact Ev.ite_pos h Ev.some
    · rw [if_neg h]; exact Ev.ite_neg h (ih _ (by omega) (by omega))
theorem specQueueOk_ev (l : List I_Job) (hl : l.length ≤ maxLen) : Ev (fun k => spec_QueueOk.f k l) (qok l (l.length - 1) 1) := by
  unfold spec_QueueOk.f
  exact specQueueOk_l l hl (l.length - 1) 1 (by omega) rfl
theorem implQueueOk_ev (l : List I_Job) (hl : l.length ≤ maxLen) : Ev (fun k => impl_QueueOk.f k l) (qok l (l.length - 1) 1) := by
  unfold impl_QueueOk.f
  exact implQueueOk_l l hl (l.length - 1) 1 (by omega) rfl
theorem qok_len (l : List I_Job) : ∀ d n : Nat, qok l d n = true → l.length ≤ 60 := by
  intro d
  induction d with
  | zero => intro n h; rw [qok] at h; have := of_decide_eq_true h; omega
  | succ d ih =>
    intro n h
    rw [qok] at h
    split at h
    · cases h
    · exact ih _ h
def swap (l : List I_Job) (i j : Nat) : List I_Job := (l.set i (rd_I_Job l (j : Int))).set j (rd_I_Job l (i : Int))
theorem swap_length (l : List I_Job) (i j : Nat) : (swap l i j).length = l.length := by simp [swap]
theorem turn_ev (l : List I_Job) (i j : Nat) (hi : i < l.length) (hj : j < l.length) : spec_l28Turn.f l (i : Int) (j : Int) = some (swap l i j) := by
  unfold spec_l28Turn.f
  rw [if_pos (by omega), if_pos (by omega), if_pos (by omega), if_pos (by omega)]
  rfl
def up : Nat → List I_Job → Nat → List I_Job
  | 0, l, _ => l
  | d + 1, l, n => if 0 < n ∧ before (rd_I_Job l (n : Int)) (rd_I_Job l ((par n : Nat) : Int)) = true then up d (swap l n (par n)) (par n) else l
theorem up_length : ∀ (d : Nat) (l : List I_Job) (n : Nat), (up d l n).length = l.length := by
  intro d
  induction d with
  | zero => intro l n; rfl
  | succ d ih =>
    intro l n
    rw [up]
    split
    · rw [ih, swap_length]
    · rfl
theorem up_zero (d : Nat) (l : List I_Job) : up d l 0 = l := by
  cases d with
  | zero => rfl
  | succ d => rw [up, if_neg (fun h => absurd h.1 (by omega))]
theorem implUp_ev : ∀ (d : Nat) (l : List I_Job) (n : Nat), n ≤ d → n < l.length → l.length ≤ maxLen → Ev (fun k => impl_QueuePut.l0 k l (n : Int)) (up d l n, true) := by
  intro d
  induction d with
  | zero =>
    intro l n hn hl hm
    obtain rfl : n = 0 := by omega
    exact Ev.step (fun k => by simp only [impl_QueuePut.l0]; rfl) (Ev.ite_neg (by omega) Ev.some)
  | succ d ih =>
    intro l n hn hl hm
    by_cases h0 : n = 0
    · subst h0
      rw [up_zero]
      exact Ev.step (fun k => by simp only [impl_QueuePut.l0]; rfl) (Ev.ite_neg (by omega) Ev.some)
    have hp : par n < n := by unfold par; omega
    refine Ev.step (fun k => by simp only [impl_QueuePut.l0]; rfl) (Ev.ite_pos (by omega) (Ev.ite_pos (by omega) (Ev.ite_pos (by omega) ?_)))
    rw [wrap_par (by omega) (by omega)]
    refine Ev.ite_pos (by omega) (Ev.ite_pos (by omega) (Ev.bind (Ev.cst (implBefore_ev _ _)) ?_))
    rw [up]
    by_cases hb : before (rd_I_Job l (n : Int)) (rd_I_Job l ((par n : Nat) : Int)) = true
    · rw [if_pos ⟨by omega, hb⟩]
      exact Ev.ite_pos hb (ih (swap l n (par n)) (par n) (by omega) (by rw [swap_length]; omega) (by rw [swap_length]; omega))
    · rw [if_neg (fun h => hb h.2)]
      exact Ev.ite_neg hb Ev.some
theorem specUp_ev : ∀ (d : Nat) (l : List I_Job) (n : Nat), n ≤ d → n < l.length → l.length ≤ maxLen → Ev (fun k => spec_QueuePut.l0 k l (n : Int)) (up d l n, true) := by
  intro d
  induction d with
  | zero =>
    intro l n hn hl hm
    obtain rfl : n = 0 := by omega
    exact Ev.step (fun k => by simp only [spec_QueuePut.l0]; rfl) (Ev.ite_neg (by omega) Ev.some)
  | succ d ih =>
    intro l n hn hl hm
    by_cases h0 : n = 0
    · subst h0
      rw [up_zero]
      exact Ev.step (fun k => by simp only [spec_QueuePut.l0]; rfl) (Ev.ite_neg (by omega) Ev.some)
    have hp : par n < n := by unfold par; omega
    refine Ev.step (fun k => by simp only [spec_QueuePut.l0]; rfl) (Ev.ite_pos (by omega) (Ev.ite_pos (by omega) (Ev.ite_pos (by omega) ?_)))
    rw [wrap_par (by omega) (by omega)]
    refine Ev.ite_pos (by omega) (Ev.ite_pos (by omega) (Ev.bind (Ev.cst (specBefore_ev _ _)) ?_))
    rw [up]
    by_cases hb : before (rd_I_Job l (n : Int)) (rd_I_Job l ((par n : Nat) : Int)) = true
    · rw [if_pos ⟨by omega, hb⟩]
      exact Ev.ite_pos hb (Ev.bind (Ev.cst (turn_ev l n (par n) (by omega) (by omega))) (ih (swap l n (par n)) (par n) (by omega) (by rw [swap_length]; omega) (by rw [swap_length]; omega)))
    · rw [if_neg (fun h => hb h.2)]
      exact Ev.ite_neg hb Ev.some
def qput (l : List I_Job) (x : I_Job) : List I_Job × Bool := if qok l (l.length - 1) 1 = true ∧ l.length ≠ 60 then (up l.length (l ++ [x]) l.length, true) else (l, false)
theorem qput_length (l : List I_Job) (x : I_Job) : (qput l x).1.length ≤ l.length + 1 := by
  unfold qput
  split
  · rw [up_length]; simp
  · exact Nat.le_succ _
theorem implClone_ev (l : List I_Job) (hl : l.length ≤ 1048577) : impl_Job.f l = some l := by
  unfold impl_Job.f
  rw [Option.bind_some, if_pos (by rw [List.length_nil]; omega)]
  rfl
theorem implPut_ev (l : List I_Job) (x : I_Job) (hl : l.length ≤ 1048576) : Ev (fun k => impl_QueuePut.f k l x.f0 x.f1) (qput l x) := by
  have hm : maxLen = 9223372036854775807 := rfl
  unfold impl_QueuePut.f
  have hj : ∀ b : Bool, Ev (fun k => impl_QueuePut.j0 k l b x.f0 x.f1) (if b = true then (l, false) else (up l.length (l ++ [x]) l.length, true)) := by
    intro b
    refine Ev.step (fun k => by simp only [impl_QueuePut.j0]; rfl) ?_
    cases b
    · refine Ev.ite_neg (by simp) (Ev.ite_pos (by omega) (Ev.bind Ev.some ?_))
      rw [if_neg (by simp)]
      have e : wrap64 (((l ++ [(⟨x.f0, x.f1⟩ : I_Job)]).length : Int) - 1) = (l.length : Int) := by
        rw [List.length_append, wrap_id] <;> simp <;> omega
      rw [e]
      exact implUp_ev l.length (l ++ [x]) l.length (Nat.le_refl _) (by simp) (by simp; omega)
    · exact Ev.ite_pos rfl Ev.some
  refine Ev.bind (Ev.cst (implClone_ev l (by omega))) (Ev.bind (implQueueOk_ev l (by omega)) ?_)
  unfold qput
  by_cases h : qok l (l.length - 1) 1 = true
  · refine Ev.ite_pos h (Ev.val (hj _) ?_)
    by_cases h6 : l.length = 60
    · rw [if_pos (by simp [h6]), if_neg (fun e => e.2 h6)]
    · rw [if_neg (by simp; omega), if_pos ⟨h, h6⟩]
  · refine Ev.ite_neg h (Ev.val (hj _) ?_)
    rw [if_pos rfl, if_neg (fun e => h e.1)]
theorem specPut_ev (l : List I_Job) (x : I_Job) (hl : l.length ≤ 1048576) : Ev (fun k => spec_QueuePut.f k l x.f0 x.f1) (qput l x) := by
  have hm : maxLen = 9223372036854775807 := rfl
  unfold spec_QueuePut.f
  have hj : ∀ b : Bool, Ev (fun k => spec_QueuePut.j0 k l b x.f0 x.f1) (if b = true then (l, false) else (up l.length (l ++ [x]) l.length, true)) := by
    intro b
    refine Ev.step (fun k => by simp only [spec_QueuePut.j0]; rfl) ?_
    cases b
    · refine Ev.ite_neg (by simp) (Ev.ite_pos (by omega) (Ev.bind Ev.some ?_))
      rw [if_neg (by simp)]
      have e : wrap64 (((l ++ [(⟨x.f0, x.f1⟩ : I_Job)]).length : Int) - 1) = (l.length : Int) := by
        rw [List.length_append, wrap_id] <;> simp <;> omega
      rw [e]
      exact specUp_ev l.length (l ++ [x]) l.length (Nat.le_refl _) (by simp) (by simp; omega)
    · exact Ev.ite_pos rfl Ev.some
  refine Ev.bind Ev.some (Ev.ite_pos (by rw [List.length_nil]; omega) (Ev.bind Ev.some (Ev.bind (specQueueOk_ev l (by omega)) ?_)))
  unfold qput
  by_cases h : qok l (l.length - 1) 1 = true
  · refine Ev.ite_pos h (Ev.val (hj _) ?_)
    have := qok_len l _ _ h
    by_cases h6 : l.length = 60
    · rw [if_pos (by simp [h6]), if_neg (fun e => e.2 h6)]
    · rw [if_neg (by simp; omega), if_pos ⟨h, h6⟩]
  · refine Ev.ite_neg h (Ev.val (hj _) ?_)
    rw [if_pos rfl, if_neg (fun e => h e.1)]
def oneJob (v : Int) : I_Job := ⟨v, v + 1⟩
theorem markJobS_ev (l : List I_Job) (v : Int) (hl : l.length ≤ 1048577) (h0 : 0 ≤ v) (hv : v ≤ 1048577) : Ev (fun k => laws_markJobS.f k l v) (v + (2 * l.length : Nat), mkL oneJob 2 v l.length) := by
  have hm : maxLen = 9223372036854775807 := rfl
  refine mark_loop oneJob 2 (fun k acc v i => laws_markJobS.l0 k acc v i) ?_ ?_ l (by omega) v h0 (by omega)
  · intro k acc v n hn hl h0 hv
    simp only [laws_markJobS.l0]
    rw [if_pos (by omega), if_pos (by omega), Option.bind_some, Int.toNat_natCast, wrap_nat (by omega), wrap_id (x := v + 1) (by omega) (by omega), wrap_id (by omega) (by omega), List.set_set]
    have e : rd_I_Job (acc.set n ⟨v, (rd_I_Job acc (n : Int)).f1⟩) (n : Int) = ⟨v, (rd_I_Job acc (n : Int)).f1⟩ := getD_set_self acc _ _ n hn
    rw [e, Int.add_assoc]
    rfl
  · intro k acc v
    simp only [laws_markJobS.l0]
    rw [if_neg (by omega)]
theorem heldJobS_ev (m : Nat) (v : Int) (hl : m ≤ 1048577) (h0 : 0 ≤ v) (hv : v ≤ 1048577) : Ev (fun k => laws_heldJobS.f k (mkL oneJob 2 v m) v) (v + (2 * m : Nat)) := by
  have hm : maxLen = 9223372036854775807 := rfl
  refine held_loop oneJob 2 zI_Job (fun k acc v i => laws_heldJobS.l0 k acc v i) ?_ ?_ m (by omega) v h0 (by omega)
  · intro k acc v n hn hl h0 hv e
    simp only [laws_heldJobS.l0]
    have e' : rd_I_Job acc (n : Int) = oneJob v := e
    rw [if_pos (by omega), if_pos (by omega), wrap_nat (by omega), wrap_id (x := v + 1) (by omega) (by omega), wrap_id (by omega) (by omega), e', if_pos (show (oneJob v).f0 = v from rfl), if_pos (show (oneJob v).f1 = v + 1 from rfl), Int.add_assoc]
    rfl
  · intro k acc v
    simp only [laws_heldJobS.l0]
    rw [if_neg (by omega)]
theorem FnExactQueuePut : laws_FnExactQueuePut.Pure := by
  intro l x_0 x_1 hl hx_0 hx_1
  refine Ev.rounds (g := fun k => laws_FnExactQueuePut.f k l x_0 x_1) ?_
  unfold laws_FnExactQueuePut.f
  have hm : maxLen = 9223372036854775807 := rfl
  have W2 : Wf_L_Job (⟨x_0, x_1⟩ : L_Job) := ⟨hx_0, hx_1⟩
  refine law_sz (by omega) (by omega) (szJobS_ev l hl 1048576 (by omega) (by omega)) fun q1 a1 b1 S1 => ?_
  have K1 : el_JobS (cv_JobS l) ≤ 1048576 := by have := el_cv_JobS l; omega
  have E1 : el_JobS (cv_JobS l) ≤ maxLen := by omega
  have L1 : (cv_JobS l).length ≤ 1048576 := by have := K1; unfold el_JobS at this; omega
  have L2 : (qput (cv_JobS l) (cv_Job (⟨x_0, x_1⟩ : L_Job))).1.length ≤ 1048577 := by have := qput_length (cv_JobS l) (cv_Job (⟨x_0, x_1⟩ : L_Job)); omega
  have R1 : el_JobS (qput (cv_JobS l) (cv_Job (⟨x_0, x_1⟩ : L_Job))).1 ≤ maxLen := by unfold el_JobS; rw [sum_zero _ el_Job (fun _ => rfl)]; omega
  refine Ev.nxt ?_
  simp only [laws_FnExactQueuePut.j0]
  refine Ev.bind (toJobS_ev _ (by first | exact S1 | trivial)) ?_
  refine Ev.bind (toJob_ev (⟨_, _⟩ : L_Job)) ?_
  refine Ev.bind (specPut_ev (cv_JobS l) (cv_Job (⟨x_0, x_1⟩ : L_Job)) L1) ?_
  refine Ev.bind (toJobS_ev _ (by first | exact S1 | trivial)) ?_
  refine Ev.bind (toJob_ev (⟨_, _⟩ : L_Job)) ?_
  refine Ev.bind (implPut_ev (cv_JobS l) (cv_Job (⟨x_0, x_1⟩ : L_Job)) L1) ?_
  refine Ev.bind (eqJobS_ev _ (by first | exact E1 | exact R1 | trivial)) (Ev.ite_pos rfl ?_)
  refine Ev.nxt ?_
  simp only [laws_FnExactQueuePut.j1]
  refine Ev.ite_neg (by simp) ?_
  refine Ev.nxt ?_
  simp only [laws_FnExactQueuePut.j2]
  refine Ev.bind (toJobS_ev _ (by first | exact S1 | trivial)) ?_
  refine Ev.bind (eqJobS_ev _ (by first | exact E1 | exact R1 | trivial)) (Ev.ite_pos rfl ?_)
  refine Ev.nxt ?_
  simp only [laws_FnExactQueuePut.j3]
  refine Ev.bind (markJobS_ev _ _ (by first | omega) (by omega) (by omega)) ?_
  refine Ev.ite_neg (by first | omega | (dsimp only; omega)) ?_
  refine Ev.bind (eqJobS_ev _ (by first | exact E1 | exact R1 | trivial)) (Ev.ite_pos rfl ?_)
  refine Ev.nxt ?_
  simp only [laws_FnExactQueuePut.j4]
  refine Ev.ite_neg (by simp) ?_
  refine Ev.nxt ?_
  simp only [laws_FnExactQueuePut.j5]
  refine Ev.bind (markJobS_ev _ _ (by first | omega) (by omega) (by omega)) ?_
  refine Ev.bind (heldJobS_ev _ _ (by first | omega) (by omega) (by omega)) ?_
  refine Ev.ite_neg (by first | omega | (dsimp only; omega)) ?_
  refine Ev.nxt ?_
  simp only [laws_FnExactQueuePut.j6]
  refine Ev.ite_pos (by first | rfl | (dsimp only; omega) | simp) ?_
  refine Ev.nxt ?_
  simp only [laws_FnExactQueuePut.j7]
  refine Ev.bind (toJobS_ev _ (by first | exact S1 | trivial)) ?_
  refine Ev.bind (toJob_ev (⟨_, _⟩ : L_Job)) ?_
  refine Ev.bind (implPut_ev (cv_JobS l) (cv_Job (⟨x_0, x_1⟩ : L_Job)) L1) ?_
  refine Ev.bind (eqJobS_ev _ (by first | exact E1 | exact R1 | trivial)) (Ev.ite_pos rfl ?_)
  refine Ev.nxt ?_
  simp only [laws_FnExactQueuePut.j8]
  refine Ev.ite_neg (by simp) ?_
  refine Ev.nxt ?_
  simp only [laws_FnExactQueuePut.j9]
  refine Ev.bind (heldJobS_ev _ _ (by first | omega) (by omega) (by omega)) ?_
  refine Ev.ite_neg (by first | omega | (dsimp only; omega)) ?_
  refine Ev.ite_pos (by first | rfl | (dsimp only; omega) | simp) ?_
  exact Ev.some
end Go.Proofs.Ytlgoindmpejgcaa.Pure
