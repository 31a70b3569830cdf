/- Whatever can be read as data is a value of a kind: words for the rows of laws over structs, slices and trees. -/
import Derived.Lib.SliceRun
import Derived.ProofKit
import Derived.DataReads
import Derived.ChangeArms
import Derived.WideShapes
import Derived.Test.YtcboagkbcoihjaaWWords
import Derived.Test.YtcboagkbcoihjaaWLast
namespace Go.Proofs.Ytcboagkbcoihjaa.XOpens
open Go.ChangeShapes Go.WideShapes Go.RowKit Go.Proofs.YtcboagkbcoihjaaW.PrintWords

/-- A call of a function value: it is a closure, what it captured comes behind the arguments. -/
theorem gate_calleeV {P : Program} {ops : Array Oper} {Q : Exit → Act → World → Prop} {o : Oper} {rest : List Oper} {a : Act} {W : World} {t : Tmp} {as : Array Operand} {ts : Array TypeId} (_ho : o.op = .call { callee := .value (.tmp t), args := as, argTypes := ts }) (h : wpList P ops Q (o :: rest) a W) : wpList P ops Q (o :: rest) a W := h
theorem goesV_ {P : Program} {ops : Array Oper} {Q : Exit → Act → World → Prop} {rest : List Oper} {oi : Oper} {a : Act} {w : World} (N : Option Tmp) (hd : oi.dst = N) (hg : oi.guard = none) {f : FuncId} {fn : Func} {t : Tmp} {caps : Array Value} {as : Array Operand} {ts : Array TypeId} (hf : P.funcs[f]? = some fn) (hname : (fn.name == "runtime.NumGoroutine") = false) (hb : fn.body.isSome = true) (args : Array Value)
    (hop : oi.op = .call { callee := .value (.tmp t), args := as, argTypes := ts }) (hval : a.eval (.tmp t) = .func (.func f) #[] caps) (hargs : as.map a.eval ++ caps = args)
    (h : Calls P f args w fun e w' => ∃ v, e = .returned v ∧ wpList P ops Q rest (a.put N v) w') : wpList P ops Q (oi :: rest) a w := by
  refine wpList_plain hg fun K hK => ?_
  have he := Go.Proofs.YtcboagkbcoihjaaW.PrintLast.enters_ hf hname hb args w
  have hrun : (execOp a.eval oi).run P w = .ok (.enter f args) w := by
    unfold execOp
    simp [hop, resolve, Deferred.ofValue, invoke, hval, hargs, he]
  unfold Oper.wp
  rw [hrun, Oper.upon_enter]
  refine h.mono fun e w'' hh => ?_
  obtain ⟨v, rfl, hk⟩ := hh
  subst hd
  exact hK _ _ hk
theorem addr0 (b k : Nat) : (⟨b, 0, none⟩ : Addr).add k = ⟨b, k, none⟩ := by
  unfold Addr.add
  split
  · subst_vars; rfl
  · simp

/-- Each list of cells of type t that is read with that much fuel is a value of the kind d, and as ok says. -/
def Opens {α H : Type} (enc : TypeId × Value → H) (P : Program) (w : World) (t : TypeId) (d : Kd α) (ok : α → Prop) (n : Nat) : Prop :=
  ∀ cs x, DataW.trod enc P w 0 (fun _ => true) true n t cs = some x → ∃ a, d.K w a cs ∧ ok a

section
variable {H : Type} {enc : TypeId × Value → H} {P : Program} {w : World} {t e : TypeId} {n : Nat}

theorem opens_int {k : IntKind} (ht : P.underlying t = some (.int k)) : Opens enc P w t (Kd.int k) (fun a => (Lit.int k a).wf = true) n := by
  intro cs x h
  obtain ⟨a, rfl, _, hw⟩ := DataW.trod_int ht h
  exact ⟨a, rfl, hw⟩

theorem opens_bool (ht : P.underlying t = some .bool) : Opens enc P w t Kd.bool (fun _ => True) n := by
  intro cs x h
  obtain ⟨a, rfl, _⟩ := DataW.trod_bool ht h
  exact ⟨a, rfl, trivial⟩

theorem opens_string (ht : P.underlying t = some .string) : Opens enc P w t Kd.string (fun a => a.size ≤ maxLen) n := by
  intro cs x h
  obtain ⟨a, rfl, _, hs⟩ := DataW.trod_string ht h
  exact ⟨a, rfl, hs⟩

theorem cells_get {a : Addr} {m : Nat} {cs : List Value} (h : w.cells? 0 a m = some cs) : cs.length = m ∧ ∀ i u, cs[i]? = some u → w.cell? (a.add i) = some u := by
  unfold World.cells? at h
  rw [if_pos (Nat.zero_le _)] at h
  have hl := mapM_some_length h
  refine ⟨by simpa using hl, fun i u hu => ?_⟩
  have hi : i < m := by
    have := (List.getElem?_eq_some_iff.1 hu).1
    simp at hl
    omega
  have := mapM_some_get h i i (by simp [hi])
  rw [this]
  exact hu

theorem addr_add (a : Addr) (i j : Nat) : (a.add i).add j = a.add (i + j) := by
  unfold Addr.add
  by_cases hi : i = 0
  · subst hi; simp
  · by_cases hj : j = 0
    · subst hj; simp [hi]
    · simp [hi, hj, Nat.add_assoc]

theorem choose_list {α : Type} {β : Type} (P' : α → β → Prop) : ∀ (l : List β), (∀ b ∈ l, ∃ a, P' a b) → ∃ as : List α, as.length = l.length ∧ ∀ (j : Nat) a b, as[j]? = some a → l[j]? = some b → P' a b := by
  intro l
  induction l with
  | nil => intro _; exact ⟨[], rfl, fun j a b h => by simp at h⟩
  | cons b l ih =>
    intro h
    obtain ⟨a, ha⟩ := h b List.mem_cons_self
    obtain ⟨as, hl, hp⟩ := ih (fun b' hb' => h b' (List.mem_cons_of_mem _ hb'))
    refine ⟨a :: as, by simp [hl], fun j x y hx hy => ?_⟩
    cases j with
    | zero =>
      simp at hx hy
      subst hx; subst hy
      exact ha
    | succ j => exact hp j x y (by simpa using hx) (by simpa using hy)

theorem opens_slice {α : Type} {d : Kd α} {ok : α → Prop} (ht : P.underlying t = some (.slice e)) (hsz : P.cellsOf e = d.sz) (h0 : ∀ m, m < n → Opens enc P w e d ok m) :
    Opens enc P w t (Kd.slice e d) (fun xs => xs.length ≤ maxLen ∧ ∀ x ∈ xs, ok x) n := by
  intro cs x h
  rcases DataW.trod_slice ht h with ⟨rfl, _⟩ | ⟨a, len, cap, elems, rest, m, rfl, rfl, _, _, hl, hm, hlen, hel, _⟩
  · exact ⟨[], ⟨none, 0, rfl, Nat.le_refl _, rfl, by simp, fun h => absurd h (by simp)⟩, by simp, by simp⟩
  · have key : ∀ b ∈ List.range len, ∃ y : α, ∃ c, (c.length = d.sz ∧ d.K w y c ∧ ∀ i u, c[i]? = some u → w.cell? (a.add (b * d.sz + i)) = some u) ∧ ok y := by
      intro b hb
      have hb' : b < len := by simpa using hb
      have h1 := hel b hb'
      have h2 : elems[b]? = some elems[b] := List.getElem?_eq_getElem (by omega)
      rw [h2] at h1
      obtain ⟨c, hc, ht2⟩ := Option.bind_eq_some_iff.1 h1
      obtain ⟨y, hK, hy⟩ := h0 m (by omega) c _ ht2
      rw [hsz] at hc
      obtain ⟨hcl, hcg⟩ := cells_get hc
      exact ⟨y, c, ⟨hcl, hK, fun i u hu => by rw [← addr_add]; exact hcg i u hu⟩, hy⟩
    obtain ⟨ys, hyl, hy⟩ := choose_list (fun (y : α) (b : Nat) => ∃ c, (c.length = d.sz ∧ d.K w y c ∧ ∀ i u, c[i]? = some u → w.cell? (a.add (b * d.sz + i)) = some u) ∧ ok y) (List.range len) key
    have hyl' : ys.length = len := by simpa using hyl
    have hlm : len ≤ maxLen := Nat.le_trans hl hm
    have get : ∀ (j : Nat) y, ys[j]? = some y → ∃ c, (c.length = d.sz ∧ d.K w y c ∧ ∀ i u, c[i]? = some u → w.cell? (a.add (j * d.sz + i)) = some u) ∧ ok y := by
      intro j y hj
      have hj' : j < len := by
        have := (List.getElem?_eq_some_iff.1 hj).1
        omega
      exact hy j y j hj (by simp [hj'])
    refine ⟨ys, ⟨some a, cap, by rw [hyl'], by omega, rfl, ?_, fun _ => ⟨a, rfl, fun j p hj => ?_⟩⟩, by omega, fun y hyy => ?_⟩
    · have : maxLen = 9223372036854775807 := rfl
      omega
    · obtain ⟨c, ⟨h1, h2, h3⟩, _⟩ := get j p hj
      exact ⟨c, h1, h2, h3⟩
    · obtain ⟨j, hj⟩ := List.mem_iff_getElem?.1 hyy
      obtain ⟨c, _, ho⟩ := get j y hj
      exact ho
end

theorem seg_nil (cs : List Value) (h : cs.length = 0) : cs = [] := by
  cases cs with
  | nil => rfl
  | cons a l => simp at h
/-- A list of cells in two pieces. -/
theorem seg_split (cs : List Value) (o s : Nat) : cs.drop o = ((cs.drop o).take s) ++ cs.drop (o + s) := by
  rw [← List.drop_drop]
  exact (List.take_append_drop s (cs.drop o)).symm
theorem seg_end (cs : List Value) (o : Nat) (h : cs.length = o) : cs.drop o = [] := by
  rw [← h]; simp
end Go.Proofs.Ytcboagkbcoihjaa.XOpens
