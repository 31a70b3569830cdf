/- The function FnExactTrue returns true for all its arguments, on typed values. -/
import Derived.Test.YtggmgmkhohmfiaaGreatGExactTrue1
namespace Go.Proofs.YtggmgmkhohmfiaaGreat.Pure
open Go Go.RowKit Go.Proofs.YtggmgmkhohmfiaaGreat.PE
set_option linter.unusedVariables false
set_option linter.unusedSimpArgs false
/-! #### what a function with rounds comes to -/
def Ev {α : Type} (g : Nat → Option α) (r : α) : Prop := ∃ K, ∀ k, K ≤ k → g k = some r
def Wp {α : Type} (g : Nat → Option α) (P : α → Prop) : Prop := ∃ r, Ev g r ∧ P r
theorem Ev.ret {α : Type} {r : α} : Ev (fun _ => some r) r := ⟨0, fun _ _ => rfl⟩
theorem Ev.cst {α : Type} {g : Option α} {r : α} (h : g = some r) : Ev (fun _ => g) r := ⟨0, fun _ _ => h⟩
theorem Wp.ret {ρ : Type} {P : ρ → Prop} {r : ρ} (h : P r) : Wp (fun _ => some r) P := ⟨r, Ev.ret, h⟩
theorem Ev.bind {α β : Type} {g : Nat → Option α} {f : α → Nat → Option β} {v : α} {r : β} (h : Ev g v) (k : Ev (fun k => f v k) r) : Ev (fun k => (g k).bind fun x => f x k) r := by
  obtain ⟨K, h⟩ := h; obtain ⟨M, k⟩ := k
  exact ⟨max K M, fun n hn => by show (g n).bind _ = _; rw [h n (by omega)]; exact k n (by omega)⟩
theorem Wp.bindE {α ρ : Type} {P : ρ → Prop} {g : Nat → Option α} {f : α → Nat → Option ρ} {v : α} (h : Ev g v) (k : Wp (fun k => f v k) P) : Wp (fun k => (g k).bind fun x => f x k) P := by
  obtain ⟨r, k, p⟩ := k; exact ⟨r, h.bind k, p⟩
theorem Wp.bind {α ρ : Type} {P : ρ → Prop} {g : Nat → Option α} {f : α → Nat → Option ρ} {Q : α → Prop} (h : Wp g Q) (k : ∀ v, Q v → Wp (fun k => f v k) P) : Wp (fun k => (g k).bind fun x => f x k) P := by
  obtain ⟨v, h, q⟩ := h; exact Wp.bindE h (k v q)
theorem Ev.step {α : Type} {g f : Nat → Option α} {r : α} (e : ∀ k, g (k + 1) = f k) (h : Ev f r) : Ev g r := by
  obtain ⟨K, h⟩ := h
  refine ⟨K + 1, fun n hn => ?_⟩
  obtain ⟨m, rfl⟩ : ∃ m, n = m + 1 := ⟨n - 1, by omega⟩
  rw [e]; exact h m (by omega)
theorem Wp.step {ρ : Type} {P : ρ → Prop} {g f : Nat → Option ρ} (e : ∀ k, g (k + 1) = f k) (h : Wp f P) : Wp g P := by
  obtain ⟨r, h, p⟩ := h; exact ⟨r, h.step e, p⟩
theorem Wp.eqn {ρ : Type} {P : ρ → Prop} {g f : Nat → Option ρ} (e : ∀ k, g k = f k) (h : Wp f P) : Wp g P := by
  obtain ⟨r, ⟨K, h⟩, p⟩ := h; exact ⟨r, ⟨K, fun k hk => (e k).trans (h k hk)⟩, p⟩
theorem Wp.ite {ρ : Type} {P : ρ → Prop} {c : Prop} {_ : Decidable c} {a b : Nat → Option ρ} (h : c → Wp a P) (k : ¬ c → Wp b P) : Wp (fun k => if c then a k else b k) P := by
  by_cases hc : c
  · exact Wp.eqn (fun k => if_pos hc) (h hc)
  · exact Wp.eqn (fun k => if_neg hc) (k hc)
theorem Wp.itet {ρ : Type} {P : ρ → Prop} {c : Prop} {_ : Decidable c} {a b : Nat → Option ρ} (hc : c) (h : Wp a P) : Wp (fun k => if c then a k else b k) P := Wp.eqn (fun k => if_pos hc) h
theorem Wp.itef {ρ : Type} {P : ρ → Prop} {c : Prop} {_ : Decidable c} {a b : Nat → Option ρ} (hc : ¬ c) (h : Wp b P) : Wp (fun k => if c then a k else b k) P := Wp.eqn (fun k => if_neg hc) h
theorem Wp.mono {ρ : Type} {P : ρ → Prop} {g : Nat → Option ρ} {Q : ρ → Prop} (h : Wp g Q) (k : ∀ r, Q r → P r) : Wp g P := by obtain ⟨r, h, q⟩ := h; exact ⟨r, h, k r q⟩
theorem Wp.ev {ρ : Type} {g : Nat → Option ρ} {v : ρ} (h : Wp g (fun r => r = v)) : Ev g v := by obtain ⟨r, h, rfl⟩ := h; exact h
theorem Ev.wp {ρ : Type} {P : ρ → Prop} {g : Nat → Option ρ} {v : ρ} (h : Ev g v) (p : P v) : Wp g P := ⟨v, h, p⟩
theorem Ev.val {α : Type} {g : Nat → Option α} {r r' : α} (h : Ev g r) (e : r = r') : Ev g r' := e ▸ h
theorem Wp.done {g : Nat → Option Bool} (h : Wp g (fun r => r = true)) : ∃ k, g k = some true := by
  obtain ⟨r, ⟨K, h⟩, rfl⟩ := h; exact ⟨K, h K (Nat.le_refl _)⟩
theorem wrap_id {x : Int} (h0 : -9223372036854775808 ≤ x) (h1 : x ≤ 9223372036854775807) : wrap64 x = x := by
  unfold wrap64
  omega
/-- the next number (kept from omega's eyes) -/
structure Nx (n : Nat) : Prop where
  e : wrap64 ((n : Int) + 1) = (n : Int) + 1
theorem getD_at {α : Type} (z : α) (p : List α) (x : α) (q : List α) : (p ++ x :: q).getD p.length z = x := by simp
theorem rdOf_at {α : Type} (z : α) (p : List α) (x : α) (q : List α) : rdOf z (p ++ x :: q) (p.length : Int) = x := getD_at z p x q
theorem rdOf_mem {α : Type} {z : α} {l : List α} {i : Int} (h0 : 0 ≤ i) (h1 : i < (l.length : Int)) : rdOf z l i ∈ l := by
  unfold rdOf
  rw [List.getD_eq_getElem?_getD, List.getElem?_eq_getElem (by omega)]
  exact List.getElem_mem _
/-! Loops over a list: p is behind, q ahead. -/
theorem Wp.each {α ρ : Type} {P : ρ → Prop} {σ : Type} (l : List α) (z : α) (hl : l.length ≤ 1000000000) (L : Nat → Int → σ → Option ρ) (I : List α → σ → Prop)
    (step : ∀ (p : List α) (x : α) (q : List α) (s : σ), l = p ++ x :: q → x ∈ l → l.length = p.length + 1 + q.length → rdOf z l (p.length : Int) = x → Nx p.length → I p s → (∀ s', I (p ++ [x]) s' → Wp (fun k => L k ((p.length : Int) + 1) s') P) → Wp (fun k => L k (p.length : Int) s) P)
    (stop : ∀ s, I l s → Wp (fun k => L k (l.length : Int) s) P) (s : σ) (h0 : I [] s) : Wp (fun k => L k 0 s) P := by
  have key : ∀ (q p : List α) (s : σ), l = p ++ q → I p s → Wp (fun k => L k (p.length : Int) s) P := by
    intro q
    induction q with
    | nil =>
      intro p s e h
      rw [List.append_nil] at e
      subst e
      exact stop s h
    | cons x q ih =>
      intro p s e h
      have hlen : l.length = p.length + 1 + q.length := by rw [e]; simp; omega
      refine step p x q s e (by rw [e]; simp) hlen (by rw [e]; exact rdOf_at z p x q) ⟨wrap_id (by omega) (by omega)⟩ h fun s' h' => ?_
      have := ih (p ++ [x]) s' (by rw [e]; simp) h'
      rw [show ((p ++ [x]).length : Int) = (p.length : Int) + 1 from by simp] at this
      exact this
  exact key l [] s rfl h0
theorem Wp.each0 {α ρ : Type} {P : ρ → Prop} (l : List α) (z : α) (hl : l.length ≤ 1000000000) (L : Nat → Int → Option ρ) (I : List α → Prop)
    (step : ∀ (p : List α) (x : α) (q : List α), l = p ++ x :: q → x ∈ l → l.length = p.length + 1 + q.length → rdOf z l (p.length : Int) = x → Nx p.length → I p → (I (p ++ [x]) → Wp (fun k => L k ((p.length : Int) + 1)) P) → Wp (fun k => L k (p.length : Int)) P)
    (stop : I l → Wp (fun k => L k (l.length : Int)) P) (h0 : I []) : Wp (fun k => L k 0) P :=
  Wp.each (σ := Unit) l z hl (fun k i s => L k i) (fun p s => I p) (fun p x q s e m hn hr hw h ih => step p x q e m hn hr hw h (fun h' => ih () h')) (fun s h => stop h) () h0
theorem Wp.each1 {α ρ σ0 : Type} {P : ρ → Prop} (l : List α) (z : α) (hl : l.length ≤ 1000000000) (L : Nat → Int → σ0 → Option ρ) (I : List α → σ0 → Prop)
    (step : ∀ (p : List α) (x : α) (q : List α) (s0 : σ0), l = p ++ x :: q → x ∈ l → l.length = p.length + 1 + q.length → rdOf z l (p.length : Int) = x → Nx p.length → I p s0 → (∀ (t0 : σ0), I (p ++ [x]) t0 → Wp (fun k => L k ((p.length : Int) + 1) t0) P) → Wp (fun k => L k (p.length : Int) s0) P)
    (stop : ∀ (s0 : σ0), I l s0 → Wp (fun k => L k (l.length : Int) s0) P) (s0 : σ0) (h0 : I [] s0) : Wp (fun k => L k 0 s0) P :=
  Wp.each (σ := σ0) l z hl (fun k i s => L k i s) (fun p s => I p s) (fun p x q s e m hn hr hw h ih => step p x q s e m hn hr hw h (fun t0 h' => ih t0 h')) (fun s h => stop s h) s0 h0
theorem Wp.each2 {α ρ σ0 σ1 : Type} {P : ρ → Prop} (l : List α) (z : α) (hl : l.length ≤ 1000000000) (L : Nat → Int → σ0 → σ1 → Option ρ) (I : List α → σ0 → σ1 → Prop)
    (step : ∀ (p : List α) (x : α) (q : List α) (s0 : σ0) (s1 : σ1), l = p ++ x :: q → x ∈ l → l.length = p.length + 1 + q.length → rdOf z l (p.length : Int) = x → Nx p.length → I p s0 s1 → (∀ (t0 : σ0) (t1 : σ1), I (p ++ [x]) t0 t1 → Wp (fun k => L k ((p.length : Int) + 1) t0 t1) P) → Wp (fun k => L k (p.length : Int) s0 s1) P)
    (stop : ∀ (s0 : σ0) (s1 : σ1), I l s0 s1 → Wp (fun k => L k (l.length : Int) s0 s1) P) (s0 : σ0) (s1 : σ1) (h0 : I [] s0 s1) : Wp (fun k => L k 0 s0 s1) P :=
  Wp.each (σ := σ0 × σ1) l z hl (fun k i s => L k i s.1 s.2) (fun p s => I p s.1 s.2) (fun p x q s e m hn hr hw h ih => step p x q s.1 s.2 e m hn hr hw h (fun t0 t1 h' => ih (t0, t1) h')) (fun s h => stop s.1 s.2 h) (s0, s1) h0
theorem snocAll {α : Type} {Q : α → Prop} {p : List α} {x : α} (h : ∀ y ∈ p, Q y) (k : Q x) : ∀ y ∈ p ++ [x], Q y := fun y hy => (List.mem_append.1 hy).elim (h y) (fun e => by rw [List.mem_singleton.1 e]; exact k)
/-! Loops that count. -/
theorem Wp.cnt {ρ : Type} {P : ρ → Prop} {σ : Type} (n : Nat) (hl : n ≤ 1000000000) (L : Nat → Int → σ → Option ρ) (I : Nat → σ → Prop)
    (step : ∀ (i : Nat) (s : σ), i < n → Nx i → I i s → (∀ s', I (i + 1) s' → Wp (fun k => L k ((i : Int) + 1) s') P) → Wp (fun k => L k (i : Int) s) P)
    (stop : ∀ s, I n s → Wp (fun k => L k (n : Int) s) P) (s : σ) (h0 : I 0 s) : Wp (fun k => L k 0 s) P := by
  have key : ∀ (d i : Nat) (s : σ), i + d = n → I i s → Wp (fun k => L k (i : Int) s) P := by
    intro d
    induction d with
    | zero => intro i s e h; obtain rfl : i = n := by omega
              exact stop s h
    | succ d ih =>
      intro i s e h
      refine step i s (by omega) ⟨wrap_id (by omega) (by omega)⟩ h fun s' h' => ?_
      have := ih (i + 1) s' (by omega) h'
      rw [show ((i + 1 : Nat) : Int) = (i : Int) + 1 from by omega] at this
      exact this
  exact key n 0 s (by omega) h0
theorem Wp.cnt0 {ρ : Type} {P : ρ → Prop} (n : Nat) (hl : n ≤ 1000000000) (L : Nat → Int → Option ρ) (I : Nat → Prop)
    (step : ∀ (i : Nat), i < n → Nx i → I i → (I (i + 1) → Wp (fun k => L k ((i : Int) + 1)) P) → Wp (fun k => L k (i : Int)) P)
    (stop : I n → Wp (fun k => L k (n : Int)) P) (h0 : I 0) : Wp (fun k => L k 0) P :=
  Wp.cnt (σ := Unit) n hl (fun k i s => L k i) (fun i s => I i) (fun i s hi hw h ih => step i hi hw h (fun h' => ih () h')) (fun s h => stop h) () h0
theorem Wp.cnt1 {ρ σ0 : Type} {P : ρ → Prop} (n : Nat) (hl : n ≤ 1000000000) (L : Nat → Int → σ0 → Option ρ) (I : Nat → σ0 → Prop)
    (step : ∀ (i : Nat) (s0 : σ0), i < n → Nx i → I i s0 → (∀ (t0 : σ0), I (i + 1) t0 → Wp (fun k => L k ((i : Int) + 1) t0) P) → Wp (fun k => L k (i : Int) s0) P)
    (stop : ∀ (s0 : σ0), I n s0 → Wp (fun k => L k (n : Int) s0) P) (s0 : σ0) (h0 : I 0 s0) : Wp (fun k => L k 0 s0) P :=
  Wp.cnt (σ := σ0) n hl (fun k i s => L k i s) (fun i s => I i s) (fun i s hi hw h ih => step i s hi hw h (fun t0 h' => ih t0 h')) (fun s h => stop s h) s0 h0
/-- what is so, as a bool -/
noncomputable def B (p : Prop) : Bool := @decide p (Classical.propDecidable p)
theorem B_iff {p : Prop} : B p = true ↔ p := @decide_eq_true_iff p (Classical.propDecidable p)
theorem eqB {b : Bool} {p : Prop} : b = B p ↔ (b = true ↔ p) := by
  by_cases h : p
  · rw [B_iff.2 h]; simp [h]
  · have : B p = false := by rw [← Bool.not_eq_true, B_iff]; exact h
    rw [this]; simp [h]
theorem B_congr {p q : Prop} (h : p ↔ q) : B p = B q := by rw [eqB, B_iff]; exact h
theorem not_B {p : Prop} : (!B p) = B (¬ p) := by rw [eqB, Bool.not_eq_true', ← Bool.not_eq_true, B_iff]
theorem dec_B {p : Prop} {_ : Decidable p} : decide p = B p := by rw [eqB, decide_eq_true_iff]
theorem Wp.iteB {ρ : Type} {P : ρ → Prop} {p : Prop} {a b : Nat → Option ρ} (h : p → Wp a P) (k : ¬ p → Wp b P) : Wp (fun k => if B p = true then a k else b k) P := Wp.ite (fun e => h (B_iff.1 e)) (fun e => k (fun x => e (B_iff.2 x)))
theorem Wp.itetB {ρ : Type} {P : ρ → Prop} {p : Prop} {a b : Nat → Option ρ} (hc : p) (h : Wp a P) : Wp (fun k => if B p = true then a k else b k) P := Wp.itet (B_iff.2 hc) h
theorem Wp.itefB {ρ : Type} {P : ρ → Prop} {p : Prop} {a b : Nat → Option ρ} (hc : ¬ p) (h : Wp b P) : Wp (fun k => if B p = true then a k else b k) P := Wp.itef (fun e => hc (B_iff.1 e)) h
/-- all of n are so; else false -/
theorem Wp.allP {Φ : Nat → Prop} {P : Bool → Prop} (n : Nat) (hl : n ≤ 1000000000) (L : Nat → Int → Option Bool)
    (step : ∀ (i : Nat), i < n → Nx i → (Φ i → Wp (fun k => L k ((i : Int) + 1)) P) → (¬ Φ i → P false) → Wp (fun k => L k (i : Int)) P)
    (stop : (∀ i, i < n → Φ i) → Wp (fun k => L k (n : Int)) P) (bad : (¬ ∀ i, i < n → Φ i) → P false) : Wp (fun k => L k 0) P := by
  refine Wp.cnt0 n hl L (fun i => ∀ j, j < i → Φ j) (fun i hi hw h ih => step i hi hw (fun hp => ih (fun j hj => ?_)) (fun hp => bad (fun h => hp (h i hi)))) stop (fun j hj => absurd hj (Nat.not_lt_zero j))
  by_cases e : j = i
  · rw [e]; exact hp
  · exact h j (by omega)
/-- all of n are so, and then something else -/
theorem Wp.all {Φ : Nat → Prop} {Ψ : Prop} (n : Nat) (hl : n ≤ 1000000000) (L : Nat → Int → Option Bool)
    (step : ∀ (i : Nat) (P : Bool → Prop), i < n → Nx i → (Φ i → Wp (fun k => L k ((i : Int) + 1)) P) → (¬ Φ i → P false) → Wp (fun k => L k (i : Int)) P)
    (stop : (∀ i, i < n → Φ i) → Wp (fun k => L k (n : Int)) (fun r => r = B Ψ)) : Ev (fun k => L k 0) (B ((∀ i, i < n → Φ i) ∧ Ψ)) := by
  refine Wp.ev (Wp.allP n hl L (fun i hi hw => step i _ hi hw) (fun h => (stop h).mono fun r hr => ?_) (fun h => ?_))
  · rw [hr]
    exact B_congr ⟨fun x => ⟨h, x⟩, fun x => x.2⟩
  · rw [eqB]
    exact ⟨fun h => absurd h (by decide), fun x => absurd x.1 h⟩
/-- the first of n that is so; -1 -/
noncomputable def fidx (Φ : Nat → Prop) : Nat → Nat → Int
  | 0, _ => -1
  | d + 1, i => if B (Φ i) = true then (i : Int) else fidx Φ d (i + 1)
theorem fidx_spec (Φ : Nat → Prop) : ∀ d i, (fidx Φ d i = -1 ∧ ∀ j, i ≤ j → j < i + d → ¬ Φ j) ∨ (∃ j, i ≤ j ∧ j < i + d ∧ fidx Φ d i = (j : Int) ∧ Φ j ∧ ∀ z, i ≤ z → z < j → ¬ Φ z) := by
  intro d
  induction d with
  | zero => intro i; exact .inl ⟨rfl, fun j h1 h2 => by omega⟩
  | succ d ih =>
    intro i
    rw [fidx]
    by_cases h : Φ i
    · rw [if_pos (B_iff.2 h)]
      exact .inr ⟨i, by omega, by omega, rfl, h, fun z h1 h2 => by omega⟩
    · rw [if_neg (fun e => h (B_iff.1 e))]
      rcases ih (i + 1) with ⟨h1, h2⟩ | ⟨j, h1, h2, h3, h4, h5⟩
      · refine .inl ⟨h1, fun j a b => ?_⟩
        by_cases e : j = i
        · rw [e]; exact h
        · exact h2 j (by omega) (by omega)
      · refine .inr ⟨j, by omega, by omega, h3, h4, fun z a b => ?_⟩
        by_cases e : z = i
        · rw [e]; exact h
        · exact h5 z (by omega) b
theorem fidx_ge {Φ : Nat → Prop} {n : Nat} : fidx Φ n 0 ≥ 0 ↔ ∃ i, i < n ∧ Φ i := by
  rcases fidx_spec Φ n 0 with ⟨h1, h2⟩ | ⟨j, h1, h2, h3, h4, h5⟩
  · rw [h1]
    exact ⟨fun h => absurd h (by decide), fun ⟨i, a, b⟩ => absurd b (h2 i (by omega) (by omega))⟩
  · rw [h3]
    exact ⟨fun _ => ⟨j, by omega, h4⟩, fun _ => by omega⟩
theorem Wp.find {ρ : Type} {Φ : Nat → Prop} (n : Nat) (hl : n ≤ 1000000000) (L : Nat → Int → Option ρ) (ret : Int → ρ)
    (step : ∀ (i : Nat) (P : ρ → Prop), i < n → Nx i → (¬ Φ i → Wp (fun k => L k ((i : Int) + 1)) P) → (Φ i → P (ret i)) → Wp (fun k => L k (i : Int)) P)
    (stop : Wp (fun k => L k (n : Int)) (fun r => r = ret (-1))) : Ev (fun k => L k 0) (ret (fidx Φ n 0)) := by
  refine Wp.ev (Wp.cnt0 n hl L (fun i => fidx Φ n 0 = fidx Φ (n - i) i) (fun i hi hw h ih => step i _ hi hw (fun hp => ih ?_) (fun hp => ?_)) (fun h => stop.mono fun r hr => ?_) rfl)
  · rw [h, show n - i = (n - (i + 1)) + 1 from by omega, fidx, if_neg (fun e => hp (B_iff.1 e))]
  · rw [h, show n - i = (n - (i + 1)) + 1 from by omega, fidx, if_pos (B_iff.2 hp)]
  · rw [hr, h, Nat.sub_self, fidx]
/-- two lists of one length, side by side -/
theorem Wp.both {α β ρ : Type} {P : ρ → Prop} (l : List α) (z : α) (l' : List β) (z' : β) (hll : l.length = l'.length) (hl : l.length ≤ 1000000000) (L : Nat → Int → Option ρ) (I : List α → List β → Prop)
    (step : ∀ (p : List α) (x : α) (q : List α) (p' : List β) (x' : β) (q' : List β), l = p ++ x :: q → l' = p' ++ x' :: q' → p.length = p'.length → x ∈ l → x' ∈ l' → l.length = p.length + 1 + q.length → rdOf z l (p.length : Int) = x → rdOf z' l' (p.length : Int) = x' → Nx p.length → I p p' → (I (p ++ [x]) (p' ++ [x']) → Wp (fun k => L k ((p.length : Int) + 1)) P) → Wp (fun k => L k (p.length : Int)) P)
    (stop : I l l' → Wp (fun k => L k (l.length : Int)) P) (h0 : I [] []) : Wp (fun k => L k 0) P := by
  refine Wp.each0 l z hl L (fun p => I p (l'.take p.length)) (fun p x q e m hn hr hw h ih => ?_) (fun h => ?_) h0
  · have hp : p.length < l'.length := by omega
    have e' : l' = l'.take p.length ++ l'[p.length] :: l'.drop (p.length + 1) := by rw [← List.drop_eq_getElem_cons hp, List.take_append_drop]
    have hl2 : (l'.take p.length).length = p.length := by rw [List.length_take]; omega
    refine step p x q (l'.take p.length) l'[p.length] (l'.drop (p.length + 1)) e e' hl2.symm m (List.getElem_mem _) hn hr ?_ hw h (fun h' => ih ?_)
    · have := rdOf_at z' (l'.take p.length) l'[p.length] (l'.drop (p.length + 1))
      rw [← e', hl2] at this
      exact this
    · rw [List.length_append, List.length_singleton, List.take_add_one, List.getElem?_eq_getElem hp]
      exact h'
  · refine stop ?_
    rw [hll, List.take_length] at h
    exact h
/-! #### terms -/
theorem tEta (t : I_Term) : (⟨t.f0, t.f1, t.f2⟩ : I_Term) = t := by cases t; rfl
mutual
def sz : I_Term → Nat
  | ⟨_, _, l⟩ => szs l + 1
def szs : List I_Term → Nat
  | [] => 0
  | t :: l => sz t + szs l
end
theorem sz_eq (t : I_Term) : sz t = szs t.f2 + 1 := by cases t; rw [sz]
theorem szs_mem {l : List I_Term} {x : I_Term} (h : x ∈ l) : sz x ≤ szs l := by
  induction l with
  | nil => cases h
  | cons a l ih =>
    rw [szs]
    rcases List.mem_cons.1 h with rfl | h
    · omega
    · have := ih h; omega
theorem szs_append (a b : List I_Term) : szs (a ++ b) = szs a + szs b := by
  induction a with
  | nil => simp [szs]
  | cons x a ih => rw [List.cons_append, szs, szs, ih]; omega
theorem szs_len (l : List I_Term) : l.length ≤ szs l := by
  induction l with
  | nil => simp
  | cons x l ih => rw [List.length_cons, szs, sz_eq]; omega
theorem sz_kid {t x : I_Term} (h : x ∈ t.f2) : sz x < sz t := by rw [sz_eq t]; have := szs_mem h; omega
theorem sz_kids (t : I_Term) : t.f2.length < sz t := by rw [sz_eq t]; have := szs_len t.f2; omega
theorem tInd {P : I_Term → Prop} (h : ∀ t, (∀ x ∈ t.f2, P x) → P t) (t : I_Term) : P t := by
  have key : ∀ n t, sz t ≤ n → P t := by
    intro n
    induction n with
    | zero => intro t ht; rw [sz_eq] at ht; omega
    | succ n ih => intro t ht; exact h t (fun x hx => ih x (by have := sz_kid hx; omega))
  exact key _ t (Nat.le_refl _)
/-! their order -/
mutual
def cmpT : I_Term → I_Term → Ordering
  | ⟨f, v, l⟩, ⟨f', v', l'⟩ => (compare f f').then ((compare v v').then ((compare l.length l'.length).then (cmpTs l l')))
def cmpTs : List I_Term → List I_Term → Ordering
  | [], _ => .eq
  | _ :: _, [] => .eq
  | t :: l, t' :: l' => (cmpT t t').then (cmpTs l l')
end
theorem cmpT_eq (a b : I_Term) : cmpT a b = (compare a.f0 b.f0).then ((compare a.f1 b.f1).then ((compare a.f2.length b.f2.length).then (cmpTs a.f2 b.f2))) := by
  cases a; cases b; rw [cmpT]
theorem cmpI_refl (a : Int) : compare a a = .eq := by rw [Int.compare_eq_eq]
theorem cmpT_refl (a : I_Term) : cmpT a a = .eq := by
  induction a using tInd with
  | h t ih =>
    have : ∀ l : List I_Term, (∀ x ∈ l, cmpT x x = .eq) → cmpTs l l = .eq := by
      intro l
      induction l with
      | nil => intro _; rw [cmpTs]
      | cons x l ihl => intro h; rw [cmpTs, h x (by simp), ihl (fun y hy => h y (by simp [hy]))]; rfl
    rw [cmpT_eq, cmpI_refl, cmpI_refl, this _ ih, Nat.compare_eq_eq.2 rfl]; rfl
theorem cmpTs_pre (p l l' : List I_Term) : cmpTs (p ++ l) (p ++ l') = cmpTs l l' := by
  induction p with
  | nil => rfl
  | cons x p ih => rw [List.cons_append, List.cons_append, cmpTs, cmpT_refl, ih]; rfl
theorem then_eq {a b : Ordering} : a.then b = .eq ↔ a = .eq ∧ b = .eq := by cases a <;> simp [Ordering.then]
theorem cmpT_same {a b : I_Term} : cmpT a b = .eq ↔ a = b := by
  constructor
  · induction a using tInd generalizing b with
    | h t ih =>
      intro h
      rw [cmpT_eq, then_eq, then_eq, then_eq, Int.compare_eq_eq, Int.compare_eq_eq, Nat.compare_eq_eq] at h
      obtain ⟨h0, h1, h2, h3⟩ := h
      have : ∀ l l' : List I_Term, (∀ x ∈ l, ∀ {b}, cmpT x b = .eq → x = b) → l.length = l'.length → cmpTs l l' = .eq → l = l' := by
        intro l
        induction l with
        | nil => intro l' _ h _; exact (List.length_eq_zero_iff.1 h.symm).symm
        | cons x l ihl =>
          intro l' hx hl h
          cases l' with
          | nil => simp at hl
          | cons y l' =>
            rw [cmpTs, then_eq] at h
            rw [hx x (by simp) h.1, ihl l' (fun z hz => hx z (by simp [hz])) (by simpa using hl) h.2]
      have h4 := this _ _ ih h2 h3
      cases t; cases b; simp_all
  · rintro rfl; exact cmpT_refl a
noncomputable instance : DecidableEq I_Term := fun a b => if h : cmpT a b = .eq then isTrue (cmpT_same.1 h) else isFalse (fun e => h (cmpT_same.2 e))
def ordI : Ordering → Int
  | .lt => -1
  | .eq => 0
  | .gt => 1
def bef (a b : I_Term) : Bool := cmpT a b == .lt
/-! #### signatures -/
theorem impl_from_ev (a b c : Int) : Ev (fun _ => impl_from.f a b c) (B (b ≤ a ∧ a ≤ c)) := by
  refine Wp.ev ?_
  unfold impl_from.f
  repeat' (first|(with_reducible refine Wp.itetB ?c_ ?_;(case c_=>first|exact Int.natCast_nonneg _|omega|assumption))|(with_reducible refine Wp.itefB ?c_ ?_;(case c_=>first|exact Int.natCast_nonneg _|omega|assumption))|(with_reducible refine Wp.itet ?c_ ?_;(case c_=>first|exact Int.natCast_nonneg _|omega|assumption))|(with_reducible refine Wp.itef ?c_ ?_;(case c_=>first|exact Int.natCast_nonneg _|omega|assumption))|(simp only [decide_eq_true_eq])|(with_reducible refine Wp.ret ?_)|(with_reducible refine Wp.itet ?c_ ?_;(case c_=>simp only [List.length_append, List.length_cons, List.length_nil, List.length_take, List.length_drop, List.length_replicate]; omega))|(with_reducible refine Wp.iteB (fun hc => ?_) (fun hc => ?_))|(with_reducible refine Wp.ite (fun hc => ?_) (fun hc => ?_)))
  all_goals (rw [eqB]; simp; omega)
theorem spec_l1In_ev (a b c : Int) : Ev (fun _ => spec_l1In.f a b c) (B (b ≤ a ∧ a ≤ c)) := by
  refine Wp.ev ?_
  unfold spec_l1In.f
  repeat' (first|(with_reducible refine Wp.itetB ?c_ ?_;(case c_=>first|exact Int.natCast_nonneg _|omega|assumption))|(with_reducible refine Wp.itefB ?c_ ?_;(case c_=>first|exact Int.natCast_nonneg _|omega|assumption))|(with_reducible refine Wp.itet ?c_ ?_;(case c_=>first|exact Int.natCast_nonneg _|omega|assumption))|(with_reducible refine Wp.itef ?c_ ?_;(case c_=>first|exact Int.natCast_nonneg _|omega|assumption))|(simp only [decide_eq_true_eq])|(with_reducible refine Wp.ret ?_)|(with_reducible refine Wp.itet ?c_ ?_;(case c_=>simp only [List.length_append, List.length_cons, List.length_nil, List.length_take, List.length_drop, List.length_replicate]; omega))|(with_reducible refine Wp.iteB (fun hc => ?_) (fun hc => ?_))|(with_reducible refine Wp.ite (fun hc => ?_) (fun hc => ?_)))
  all_goals (rw [eqB]; simp; omega)
theorem impl_isSmall_ev (a : Int) : Ev (fun _ => impl_isSmall.f a) (B (97 ≤ a ∧ a ≤ 122)) := by
  refine Wp.ev ?_
  unfold impl_isSmall.f
  repeat' (first|(with_reducible refine Wp.itetB ?c_ ?_;(case c_=>first|exact Int.natCast_nonneg _|omega|assumption))|(with_reducible refine Wp.itefB ?c_ ?_;(case c_=>first|exact Int.natCast_nonneg _|omega|assumption))|(with_reducible refine Wp.itet ?c_ ?_;(case c_=>first|exact Int.natCast_nonneg _|omega|assumption))|(with_reducible refine Wp.itef ?c_ ?_;(case c_=>first|exact Int.natCast_nonneg _|omega|assumption))|(simp only [decide_eq_true_eq])|(with_reducible refine Wp.ret ?_)|(with_reducible refine Wp.itet ?c_ ?_;(case c_=>simp only [List.length_append, List.length_cons, List.length_nil, List.length_take, List.length_drop, List.length_replicate]; omega))|(with_reducible refine Wp.iteB (fun hc => ?_) (fun hc => ?_))|(with_reducible refine Wp.ite (fun hc => ?_) (fun hc => ?_)))
  all_goals (rw [eqB]; simp; omega)
theorem impl_isDigit_ev (a : Int) : Ev (fun _ => impl_isDigit.f a) (B (48 ≤ a ∧ a ≤ 57)) := by
  refine Wp.ev ?_
  unfold impl_isDigit.f
  repeat' (first|(with_reducible refine Wp.itetB ?c_ ?_;(case c_=>first|exact Int.natCast_nonneg _|omega|assumption))|(with_reducible refine Wp.itefB ?c_ ?_;(case c_=>first|exact Int.natCast_nonneg _|omega|assumption))|(with_reducible refine Wp.itet ?c_ ?_;(case c_=>first|exact Int.natCast_nonneg _|omega|assumption))|(with_reducible refine Wp.itef ?c_ ?_;(case c_=>first|exact Int.natCast_nonneg _|omega|assumption))|(simp only [decide_eq_true_eq])|(with_reducible refine Wp.ret ?_)|(with_reducible refine Wp.itet ?c_ ?_;(case c_=>simp only [List.length_append, List.length_cons, List.length_nil, List.length_take, List.length_drop, List.length_replicate]; omega))|(with_reducible refine Wp.iteB (fun hc => ?_) (fun hc => ?_))|(with_reducible refine Wp.ite (fun hc => ?_) (fun hc => ?_)))
  all_goals (rw [eqB]; simp; omega)
def ChOk (s : ByteArray) (i : Nat) : Prop := (97 ≤ bt s i ∧ bt s i ≤ 122) ∨ (0 < i ∧ 48 ≤ bt s i ∧ bt s i ≤ 57)
def NameOk (s : ByteArray) : Prop := (∀ i, i < s.size → ChOk s i) ∧ (1 ≤ (s.size : Int) ∧ (s.size : Int) ≤ 8)
theorem spec_NameOk_ev (s : ByteArray) (h : s.size ≤ 1000000000) : Ev (fun k => spec_NameOk.f k s) (B (NameOk s)) := by
  unfold spec_NameOk.f
  refine Wp.all s.size h (fun k i => spec_NameOk.l0 k s i) ?_ ?_
  · intro i P hi hw hT hF
    refine Wp.step (fun k => by rw [spec_NameOk.l0]) ?_
    simp only [hw.e]
    repeat' (first|(with_reducible refine Wp.itetB ?c_ ?_;(case c_=>first|exact Int.natCast_nonneg _|omega|assumption))|(with_reducible refine Wp.itefB ?c_ ?_;(case c_=>first|exact Int.natCast_nonneg _|omega|assumption))|(with_reducible refine Wp.itet ?c_ ?_;(case c_=>first|exact Int.natCast_nonneg _|omega|assumption))|(with_reducible refine Wp.itef ?c_ ?_;(case c_=>first|exact Int.natCast_nonneg _|omega|assumption))|(simp only [decide_eq_true_eq])|(with_reducible refine Wp.ret ?_)|(with_reducible refine Wp.itet ?c_ ?_;(case c_=>simp only [List.length_append, List.length_cons, List.length_nil, List.length_take, List.length_drop, List.length_replicate]; omega))|(with_reducible refine Wp.iteB (fun hc => ?_) (fun hc => ?_))|(with_reducible refine Wp.ite (fun hc => ?_) (fun hc => ?_)))
    all_goals first | exact hT (by unfold ChOk; omega) | exact hF (by unfold ChOk; omega)
  · intro _
    refine Wp.step (fun k => by rw [spec_NameOk.l0]) ?_
    repeat' (first|(with_reducible refine Wp.itetB ?c_ ?_;(case c_=>first|exact Int.natCast_nonneg _|omega|assumption))|(with_reducible refine Wp.itefB ?c_ ?_;(case c_=>first|exact Int.natCast_nonneg _|omega|assumption))|(with_reducible refine Wp.itet ?c_ ?_;(case c_=>first|exact Int.natCast_nonneg _|omega|assumption))|(with_reducible refine Wp.itef ?c_ ?_;(case c_=>first|exact Int.natCast_nonneg _|omega|assumption))|(with_reducible refine Wp.bindE (spec_l1In_ev _ _ _) ?_)|(simp only [decide_eq_true_eq])|(with_reducible refine Wp.ret ?_)|(with_reducible refine Wp.itet ?c_ ?_;(case c_=>simp only [List.length_append, List.length_cons, List.length_nil, List.length_take, List.length_drop, List.length_replicate]; omega))|(with_reducible refine Wp.iteB (fun hc => ?_) (fun hc => ?_))|(with_reducible refine Wp.ite (fun hc => ?_) (fun hc => ?_)))
theorem impl_NameOk_ev (s : ByteArray) (h : s.size ≤ 1000000000) : Ev (fun k => impl_NameOk.f k s) (B (NameOk s)) := by
  unfold impl_NameOk.f
  refine (Wp.all (Φ := fun i => (97 ≤ bt s i ∧ bt s i ≤ 122) ∨ (48 ≤ bt s i ∧ bt s i ≤ 57)) (Ψ := (1 ≤ (s.size : Int) ∧ (s.size : Int) ≤ 8) ∧ (97 ≤ bt s 0 ∧ bt s 0 ≤ 122)) s.size h (fun k i => impl_NameOk.l0 k s s.size i) ?_ ?_).val (B_congr ?_)
  · intro i P hi hw hT hF
    refine Wp.step (fun k => by rw [impl_NameOk.l0]) ?_
    simp only [hw.e]
    repeat' (first|(with_reducible refine Wp.itetB ?c_ ?_;(case c_=>first|exact Int.natCast_nonneg _|omega|assumption))|(with_reducible refine Wp.itefB ?c_ ?_;(case c_=>first|exact Int.natCast_nonneg _|omega|assumption))|(with_reducible refine Wp.itet ?c_ ?_;(case c_=>first|exact Int.natCast_nonneg _|omega|assumption))|(with_reducible refine Wp.itef ?c_ ?_;(case c_=>first|exact Int.natCast_nonneg _|omega|assumption))|(with_reducible refine Wp.bindE (impl_isSmall_ev _) ?_)|(with_reducible refine Wp.bindE (impl_isDigit_ev _) ?_)|(simp only [decide_eq_true_eq])|(with_reducible refine Wp.ret ?_)|(with_reducible refine Wp.itet ?c_ ?_;(case c_=>simp only [List.length_append, List.length_cons, List.length_nil, List.length_take, List.length_drop, List.length_replicate]; omega))|(with_reducible refine Wp.iteB (fun hc => ?_) (fun hc => ?_))|(with_reducible refine Wp.ite (fun hc => ?_) (fun hc => ?_)))
    all_goals first | exact hT (by omega) | exact hF (by omega)
  · intro _
    refine Wp.step (fun k => by rw [impl_NameOk.l0]) ?_
    repeat' (first|(with_reducible refine Wp.itetB ?c_ ?_;(case c_=>first|exact Int.natCast_nonneg _|omega|assumption))|(with_reducible refine Wp.itefB ?c_ ?_;(case c_=>first|exact Int.natCast_nonneg _|omega|assumption))|(with_reducible refine Wp.itet ?c_ ?_;(case c_=>first|exact Int.natCast_nonneg _|omega|assumption))|(with_reducible refine Wp.itef ?c_ ?_;(case c_=>first|exact Int.natCast_nonneg _|omega|assumption))|(with_reducible refine Wp.bindE (impl_from_ev _ _ _) ?_)|(with_reducible refine Wp.bindE (impl_isSmall_ev _) ?_)|(simp only [decide_eq_true_eq])|(with_reducible refine Wp.ret ?_)|(with_reducible refine Wp.itet ?c_ ?_;(case c_=>simp only [List.length_append, List.length_cons, List.length_nil, List.length_take, List.length_drop, List.length_replicate]; omega))|(with_reducible refine Wp.iteB (fun hc => ?_) (fun hc => ?_))|(with_reducible refine Wp.ite (fun hc => ?_) (fun hc => ?_)))
    all_goals (rw [eqB]; simp [B_iff]; try omega)
  · unfold NameOk ChOk
    constructor
    · rintro ⟨h1, h2, h3⟩
      refine ⟨fun i hi => ?_, h2⟩
      by_cases e : i = 0
      · rw [e]; exact .inl h3
      · rcases h1 i hi with h | h
        · exact .inl h
        · exact .inr ⟨by omega, h⟩
    · rintro ⟨h1, h2⟩
      refine ⟨fun i hi => ?_, h2, ?_⟩
      · rcases h1 i hi with h | h
        · exact .inl h
        · exact .inr h.2
      · rcases h1 0 (by omega) with h | h
        · exact h
        · omega
noncomputable def symOf (s : List I_Sym) (nm : ByteArray) : Int := fidx (fun i => (rd_I_Sym s i).f0 = nm) s.length 0
theorem spec_SymOf_ev (s : List I_Sym) (nm : ByteArray) (h : s.length ≤ 1000000000) : Ev (fun k => spec_SymOf.f k s nm) (symOf s nm) := by
  unfold spec_SymOf.f
  refine Wp.find s.length h (fun k i => spec_SymOf.l0 k s nm i) (fun i => i) ?_ ?_
  · intro i P hi hw hT hF
    refine Wp.step (fun k => by rw [spec_SymOf.l0]) ?_
    simp only [hw.e]
    repeat' (first|(with_reducible refine Wp.itetB ?c_ ?_;(case c_=>first|exact Int.natCast_nonneg _|omega|assumption))|(with_reducible refine Wp.itefB ?c_ ?_;(case c_=>first|exact Int.natCast_nonneg _|omega|assumption))|(with_reducible refine Wp.itet ?c_ ?_;(case c_=>first|exact Int.natCast_nonneg _|omega|assumption))|(with_reducible refine Wp.itef ?c_ ?_;(case c_=>first|exact Int.natCast_nonneg _|omega|assumption))|(simp only [decide_eq_true_eq])|(with_reducible refine Wp.ret ?_)|(with_reducible refine Wp.itet ?c_ ?_;(case c_=>simp only [List.length_append, List.length_cons, List.length_nil, List.length_take, List.length_drop, List.length_replicate]; omega))|(with_reducible refine Wp.iteB (fun hc => ?_) (fun hc => ?_))|(with_reducible refine Wp.ite (fun hc => ?_) (fun hc => ?_)))
    all_goals first | exact hF (by assumption) | exact hT (by assumption)
  · refine Wp.step (fun k => by rw [spec_SymOf.l0]) ?_
    repeat' (first|(with_reducible refine Wp.itetB ?c_ ?_;(case c_=>first|exact Int.natCast_nonneg _|omega|assumption))|(with_reducible refine Wp.itefB ?c_ ?_;(case c_=>first|exact Int.natCast_nonneg _|omega|assumption))|(with_reducible refine Wp.itet ?c_ ?_;(case c_=>first|exact Int.natCast_nonneg _|omega|assumption))|(with_reducible refine Wp.itef ?c_ ?_;(case c_=>first|exact Int.natCast_nonneg _|omega|assumption))|(simp only [decide_eq_true_eq])|(with_reducible refine Wp.ret ?_)|(with_reducible refine Wp.itet ?c_ ?_;(case c_=>simp only [List.length_append, List.length_cons, List.length_nil, List.length_take, List.length_drop, List.length_replicate]; omega))|(with_reducible refine Wp.iteB (fun hc => ?_) (fun hc => ?_))|(with_reducible refine Wp.ite (fun hc => ?_) (fun hc => ?_)))
    all_goals rfl
theorem impl_SymOf_ev (s : List I_Sym) (nm : ByteArray) (h : s.length ≤ 1000000000) : Ev (fun k => impl_SymOf.f k s nm) (symOf s nm) := by
  have key : Ev (fun k => slices_IndexFunc_impl_Sym_impl_Sym__impl_SymOf_1.f k s nm) (symOf s nm, nm) := by
    unfold slices_IndexFunc_impl_Sym_impl_Sym__impl_SymOf_1.f
    refine Wp.find s.length h (fun k i => slices_IndexFunc_impl_Sym_impl_Sym__impl_SymOf_1.l0 k s s.length i nm) (fun i => (i, nm)) ?_ ?_
    · intro i P hi hw hT hF
      refine Wp.step (fun k => by rw [slices_IndexFunc_impl_Sym_impl_Sym__impl_SymOf_1.l0]) ?_
      simp only [hw.e, impl_SymOf_1_v2.f, Option.bind_some]
      repeat' (first|(with_reducible refine Wp.itetB ?c_ ?_;(case c_=>first|exact Int.natCast_nonneg _|omega|assumption))|(with_reducible refine Wp.itefB ?c_ ?_;(case c_=>first|exact Int.natCast_nonneg _|omega|assumption))|(with_reducible refine Wp.itet ?c_ ?_;(case c_=>first|exact Int.natCast_nonneg _|omega|assumption))|(with_reducible refine Wp.itef ?c_ ?_;(case c_=>first|exact Int.natCast_nonneg _|omega|assumption))|(simp only [decide_eq_true_eq])|(with_reducible refine Wp.ret ?_)|(with_reducible refine Wp.itet ?c_ ?_;(case c_=>simp only [List.length_append, List.length_cons, List.length_nil, List.length_take, List.length_drop, List.length_replicate]; omega))|(with_reducible refine Wp.iteB (fun hc => ?_) (fun hc => ?_))|(with_reducible refine Wp.ite (fun hc => ?_) (fun hc => ?_)))
      all_goals first | exact hF (by assumption) | exact hT (by assumption)
    · refine Wp.step (fun k => by rw [slices_IndexFunc_impl_Sym_impl_Sym__impl_SymOf_1.l0]) ?_
      repeat' (first|(with_reducible refine Wp.itetB ?c_ ?_;(case c_=>first|exact Int.natCast_nonneg _|omega|assumption))|(with_reducible refine Wp.itefB ?c_ ?_;(case c_=>first|exact Int.natCast_nonneg _|omega|assumption))|(with_reducible refine Wp.itet ?c_ ?_;(case c_=>first|exact Int.natCast_nonneg _|omega|assumption))|(with_reducible refine Wp.itef ?c_ ?_;(case c_=>first|exact Int.natCast_nonneg _|omega|assumption))|(simp only [decide_eq_true_eq])|(with_reducible refine Wp.ret ?_)|(with_reducible refine Wp.itet ?c_ ?_;(case c_=>simp only [List.length_append, List.length_cons, List.length_nil, List.length_take, List.length_drop, List.length_replicate]; omega))|(with_reducible refine Wp.iteB (fun hc => ?_) (fun hc => ?_))|(with_reducible refine Wp.ite (fun hc => ?_) (fun hc => ?_)))
      all_goals rfl
  unfold impl_SymOf.f
  exact key.bind Ev.ret
def SymRow (s : List I_Sym) (i : Nat) : Prop := NameOk (rd_I_Sym s i).f0 ∧ symOf s (rd_I_Sym s i).f0 = (i : Int) ∧ (0 ≤ (rd_I_Sym s i).f1 ∧ (rd_I_Sym s i).f1 ≤ 3) ∧ ((rd_I_Sym s i).f2 = true → (rd_I_Sym s i).f1 = 2)
def SigOk (s : List I_Sym) : Prop := (∀ i, i < s.length → SymRow s i) ∧ (1 ≤ (s.length : Int) ∧ (s.length : Int) ≤ 8) ∧ (rd_I_Sym s 0).f0 = ⟨#[116, 116]⟩ ∧ (rd_I_Sym s 0).f1 = 0
/-- all names are short -/
def Names (s : List I_Sym) : Prop := s.length ≤ 1000000000 ∧ ∀ x ∈ s, x.f0.size ≤ 1000000000
theorem rdSym_mem {s : List I_Sym} {i : Int} (h0 : 0 ≤ i) (h1 : i < (s.length : Int)) : rd_I_Sym s i ∈ s := rdOf_mem (z := zI_Sym) h0 h1
theorem impl_SigOk_ev (s : List I_Sym) (h : Names s) : Ev (fun k => impl_SigOk.f k s) (B (SigOk s)) := by
  unfold impl_SigOk.f
  refine Wp.all s.length h.1 (fun k i => impl_SigOk.l0 k s s s.length i) ?_ ?_
  · intro i P hi hw hT hF
    refine Wp.step (fun k => by rw [impl_SigOk.l0]) ?_
    have hl := h.1
    have hm := h.2 _ (rdSym_mem (s := s) (i := i) (by omega) (by omega))
    simp only [hw.e]
    repeat' (first|(with_reducible refine Wp.itetB ?c_ ?_;(case c_=>first|exact Int.natCast_nonneg _|omega|assumption))|(with_reducible refine Wp.itefB ?c_ ?_;(case c_=>first|exact Int.natCast_nonneg _|omega|assumption))|(with_reducible refine Wp.itet ?c_ ?_;(case c_=>first|exact Int.natCast_nonneg _|omega|assumption))|(with_reducible refine Wp.itef ?c_ ?_;(case c_=>first|exact Int.natCast_nonneg _|omega|assumption))|(with_reducible refine Wp.bindE (impl_NameOk_ev _ hm) ?_)|(with_reducible refine Wp.bindE (impl_SymOf_ev _ _ hl) ?_)|(with_reducible refine Wp.bindE (impl_from_ev _ _ _) ?_)|(simp only [decide_eq_true_eq])|(with_reducible refine Wp.ret ?_)|(with_reducible refine Wp.itet ?c_ ?_;(case c_=>simp only [List.length_append, List.length_cons, List.length_nil, List.length_take, List.length_drop, List.length_replicate]; omega))|(with_reducible refine Wp.iteB (fun hc => ?_) (fun hc => ?_))|(with_reducible refine Wp.ite (fun hc => ?_) (fun hc => ?_)))
    all_goals first | exact hT (by unfold SymRow; grind) | exact hF (by unfold SymRow; grind)
  · intro hall
    refine Wp.step (fun k => by rw [impl_SigOk.l0]) ?_
    repeat' (first|(with_reducible refine Wp.itetB ?c_ ?_;(case c_=>first|exact Int.natCast_nonneg _|omega|assumption))|(with_reducible refine Wp.itefB ?c_ ?_;(case c_=>first|exact Int.natCast_nonneg _|omega|assumption))|(with_reducible refine Wp.itet ?c_ ?_;(case c_=>first|exact Int.natCast_nonneg _|omega|assumption))|(with_reducible refine Wp.itef ?c_ ?_;(case c_=>first|exact Int.natCast_nonneg _|omega|assumption))|(with_reducible refine Wp.bindE (impl_from_ev _ _ _) ?_)|(simp only [decide_eq_true_eq])|(with_reducible refine Wp.ret ?_)|(with_reducible refine Wp.itet ?c_ ?_;(case c_=>simp only [List.length_append, List.length_cons, List.length_nil, List.length_take, List.length_drop, List.length_replicate]; omega))|(with_reducible refine Wp.iteB (fun hc => ?_) (fun hc => ?_))|(with_reducible refine Wp.ite (fun hc => ?_) (fun hc => ?_)))
    all_goals (rw [eqB]; grind)
theorem spec_SigOk_ev (s : List I_Sym) (h : Names s) : Ev (fun k => spec_SigOk.f k s) (B (SigOk s)) := by
  unfold spec_SigOk.f
  refine Wp.all s.length h.1 (fun k i => spec_SigOk.l0 k s i) ?_ ?_
  · intro i P hi hw hT hF
    refine Wp.step (fun k => by rw [spec_SigOk.l0]) ?_
    have hl := h.1
    have hm := h.2 _ (rdSym_mem (s := s) (i := i) (by omega) (by omega))
    simp only [hw.e]
    repeat' (first|(with_reducible refine Wp.itetB ?c_ ?_;(case c_=>first|exact Int.natCast_nonneg _|omega|assumption))|(with_reducible refine Wp.itefB ?c_ ?_;(case c_=>first|exact Int.natCast_nonneg _|omega|assumption))|(with_reducible refine Wp.itet ?c_ ?_;(case c_=>first|exact Int.natCast_nonneg _|omega|assumption))|(with_reducible refine Wp.itef ?c_ ?_;(case c_=>first|exact Int.natCast_nonneg _|omega|assumption))|(with_reducible refine Wp.bindE (spec_NameOk_ev _ hm) ?_)|(with_reducible refine Wp.bindE (spec_SymOf_ev _ _ hl) ?_)|(with_reducible refine Wp.bindE (spec_l1In_ev _ _ _) ?_)|(simp only [decide_eq_true_eq])|(with_reducible refine Wp.ret ?_)|(with_reducible refine Wp.itet ?c_ ?_;(case c_=>simp only [List.length_append, List.length_cons, List.length_nil, List.length_take, List.length_drop, List.length_replicate]; omega))|(with_reducible refine Wp.iteB (fun hc => ?_) (fun hc => ?_))|(with_reducible refine Wp.ite (fun hc => ?_) (fun hc => ?_)))
    all_goals first | exact hT (by unfold SymRow; grind) | exact hF (by unfold SymRow; grind)
  · intro hall
    refine Wp.step (fun k => by rw [spec_SigOk.l0]) ?_
    repeat' (first|(with_reducible refine Wp.itetB ?c_ ?_;(case c_=>first|exact Int.natCast_nonneg _|omega|assumption))|(with_reducible refine Wp.itefB ?c_ ?_;(case c_=>first|exact Int.natCast_nonneg _|omega|assumption))|(with_reducible refine Wp.itet ?c_ ?_;(case c_=>first|exact Int.natCast_nonneg _|omega|assumption))|(with_reducible refine Wp.itef ?c_ ?_;(case c_=>first|exact Int.natCast_nonneg _|omega|assumption))|(with_reducible refine Wp.bindE (spec_l1In_ev _ _ _) ?_)|(simp only [decide_eq_true_eq])|(with_reducible refine Wp.ret ?_)|(with_reducible refine Wp.itet ?c_ ?_;(case c_=>simp only [List.length_append, List.length_cons, List.length_nil, List.length_take, List.length_drop, List.length_replicate]; omega))|(with_reducible refine Wp.iteB (fun hc => ?_) (fun hc => ?_))|(with_reducible refine Wp.ite (fun hc => ?_) (fun hc => ?_)))
    · have h0 := (hall 0 (by omega)).2.2.2
      rw [eqB]
      simp only [Bool.and_eq_true, decide_eq_true_eq, Bool.and_true]
      constructor
      · rintro ⟨a, b, c⟩; exact ⟨by assumption, a, b⟩
      · rintro ⟨a, b, c⟩
        refine ⟨b, c, ?_⟩
        rw [Bool.eq_false_iff]
        intro e
        have := h0 e
        have e0 : (rd_I_Sym s ((0 : Nat) : Int)).f1 = 0 := c
        omega
    · rw [eqB]; grind
/-! #### worlds -/
theorem z4 {z : Nat} (h : 1 ≤ z ∧ z ≤ 4) : z = 1 ∨ z = 2 ∨ z = 3 ∨ z = 4 := by omega
theorem impl_placesOf_ev (z : Nat) (hz : 1 ≤ z ∧ z ≤ 4) (a : Int) (ha : 0 ≤ a ∧ a ≤ 3) : Ev (fun k => impl_placesOf.f k z a) ((z ^ a.toNat : Nat) : Int) := by
  obtain ⟨a, rfl⟩ : ∃ n : Nat, a = n := ⟨a.toNat, by omega⟩
  unfold impl_placesOf.f
  refine Wp.ev (Wp.cnt1 a (by omega) (fun k i s => impl_placesOf.l0 k z s a i) (fun i s => s = ((z ^ i : Nat) : Int)) ?_ ?_ 1 rfl)
  · intro i s hi hw hI ih
    refine Wp.step (fun k => by rw [impl_placesOf.l0]) ?_
    have hm : wrap64 (s * z) = ((z ^ (i + 1) : Nat) : Int) := by
      subst hI
      have : i = 0 ∨ i = 1 ∨ i = 2 := by omega
      rcases z4 hz with rfl | rfl | rfl | rfl <;> rcases this with rfl | rfl | rfl <;> decide +kernel
    simp only [hw.e, hm]
    repeat' (first|(with_reducible refine Wp.itetB ?c_ ?_;(case c_=>first|exact Int.natCast_nonneg _|omega|assumption))|(with_reducible refine Wp.itefB ?c_ ?_;(case c_=>first|exact Int.natCast_nonneg _|omega|assumption))|(with_reducible refine Wp.itet ?c_ ?_;(case c_=>first|exact Int.natCast_nonneg _|omega|assumption))|(with_reducible refine Wp.itef ?c_ ?_;(case c_=>first|exact Int.natCast_nonneg _|omega|assumption))|(exact ih _ rfl)|(simp only [decide_eq_true_eq])|(with_reducible refine Wp.ret ?_)|(with_reducible refine Wp.itet ?c_ ?_;(case c_=>simp only [List.length_append, List.length_cons, List.length_nil, List.length_take, List.length_drop, List.length_replicate]; omega))|(with_reducible refine Wp.iteB (fun hc => ?_) (fun hc => ?_))|(with_reducible refine Wp.ite (fun hc => ?_) (fun hc => ?_)))
  · intro s hI
    refine Wp.step (fun k => by rw [impl_placesOf.l0]) ?_
    repeat' (first|(with_reducible refine Wp.itetB ?c_ ?_;(case c_=>first|exact Int.natCast_nonneg _|omega|assumption))|(with_reducible refine Wp.itefB ?c_ ?_;(case c_=>first|exact Int.natCast_nonneg _|omega|assumption))|(with_reducible refine Wp.itet ?c_ ?_;(case c_=>first|exact Int.natCast_nonneg _|omega|assumption))|(with_reducible refine Wp.itef ?c_ ?_;(case c_=>first|exact Int.natCast_nonneg _|omega|assumption))|(simp only [decide_eq_true_eq])|(with_reducible refine Wp.ret ?_)|(with_reducible refine Wp.itet ?c_ ?_;(case c_=>simp only [List.length_append, List.length_cons, List.length_nil, List.length_take, List.length_drop, List.length_replicate]; omega))|(with_reducible refine Wp.iteB (fun hc => ?_) (fun hc => ?_))|(with_reducible refine Wp.ite (fun hc => ?_) (fun hc => ?_)))
    simpa using hI
def InR (z : Nat) (t : List Int) : Prop := ∀ x ∈ t, 0 ≤ x ∧ x < (z : Int)
def opw (z : Int) (t : List Int) (a b : Int) : Int := rd t (a + z * b)
def Sq (z : Nat) (t : List Int) : Prop := (1 ≤ z ∧ z ≤ 4) ∧ t.length = z * z ∧ InR z t
theorem rd_mem {t : List Int} {i : Int} (h0 : 0 ≤ i) (h1 : i < (t.length : Int)) : rd t i ∈ t := rdOf_mem (z := 0) h0 h1
theorem opidx {z : Nat} {t : List Int} (h : Sq z t) {a b : Int} (ha : 0 ≤ a ∧ a < z) (hb : 0 ≤ b ∧ b < z) : wrap64 (z * b) = z * b ∧ wrap64 (a + z * b) = a + z * b ∧ 0 ≤ a + z * b ∧ a + z * b < (t.length : Int) := by
  obtain ⟨hz, hl, _⟩ := h
  rw [hl]
  rcases z4 hz with rfl | rfl | rfl | rfl <;> refine ⟨wrap_id (by omega) (by omega), wrap_id (by omega) (by omega), by omega, by omega⟩
theorem opw_rng {z : Nat} {t : List Int} (h : Sq z t) {a b : Int} (ha : 0 ≤ a ∧ a < z) (hb : 0 ≤ b ∧ b < z) : 0 ≤ opw z t a b ∧ opw z t a b < z := by
  obtain ⟨_, _, h2, h3⟩ := opidx h ha hb
  exact h.2.2 _ (rd_mem h2 h3)
def Indiff (z : Nat) (t : List Int) : Prop := ∀ a : Nat, a < z → ∀ b : Nat, b < z → ∀ c : Nat, c < z → opw z t a b = opw z t b a ∧ opw z t (opw z t a b) c = opw z t a (opw z t b c)
theorem indiff1_ev {z : Nat} {t : List Int} (h : Sq z t) {a b : Int} (ha : 0 ≤ a ∧ a < z) (hb : 0 ≤ b ∧ b < z) : Ev (fun _ => impl_indifferent_1_v2.f a b t z) (opw z t a b, t, (z : Int)) := by
  obtain ⟨h0, h1, h2, h3⟩ := opidx h ha hb
  refine Wp.ev ?_
  unfold impl_indifferent_1_v2.f
  simp only [h0, h1]
  repeat' (first|(with_reducible refine Wp.itetB ?c_ ?_;(case c_=>first|exact Int.natCast_nonneg _|omega|assumption))|(with_reducible refine Wp.itefB ?c_ ?_;(case c_=>first|exact Int.natCast_nonneg _|omega|assumption))|(with_reducible refine Wp.itet ?c_ ?_;(case c_=>first|exact Int.natCast_nonneg _|omega|assumption))|(with_reducible refine Wp.itef ?c_ ?_;(case c_=>first|exact Int.natCast_nonneg _|omega|assumption))|(simp only [decide_eq_true_eq])|(with_reducible refine Wp.ret ?_)|(with_reducible refine Wp.itet ?c_ ?_;(case c_=>simp only [List.length_append, List.length_cons, List.length_nil, List.length_take, List.length_drop, List.length_replicate]; omega))|(with_reducible refine Wp.iteB (fun hc => ?_) (fun hc => ?_))|(with_reducible refine Wp.ite (fun hc => ?_) (fun hc => ?_)))
  rfl
theorem impl_indifferent_ev {z : Nat} {t : List Int} (h : Sq z t) : Ev (fun k => impl_indifferent.f k z t) (B (Indiff z t)) := by
  have hz : z ≤ 1000000000 := by have := h.1.2; omega
  unfold impl_indifferent.f
  refine (Wp.all (Φ := fun a => ∀ b : Nat, b < z → ∀ c : Nat, c < z → opw z t a b = opw z t b a ∧ opw z t (opw z t a b) c = opw z t a (opw z t b c)) (Ψ := True) z hz (fun k i => impl_indifferent.l0 k z i z t) ?_ ?_).val (B_congr (and_true _ ▸ Iff.rfl))
  · intro a P hi hw hT hF
    refine Wp.step (fun k => by rw [impl_indifferent.l0]) ?_
    refine Wp.itet (by omega) ?_
    refine Wp.allP (Φ := fun b => ∀ c : Nat, c < z → opw z t a b = opw z t b a ∧ opw z t (opw z t a b) c = opw z t a (opw z t b c)) z hz (fun k i => impl_indifferent.l1 k a z a z i z t) ?_ ?_ hF
    · intro b hj hwb hT2 hF2
      refine Wp.step (fun k => by rw [impl_indifferent.l1]) ?_
      refine Wp.itet (by omega) ?_
      refine Wp.allP (Φ := fun c => opw z t a b = opw z t b a ∧ opw z t (opw z t a b) c = opw z t a (opw z t b c)) z hz (fun k i => impl_indifferent.l2 k a b z a z b z i z t) ?_ ?_ hF2
      · intro c hc hwc hT3 hF3
        refine Wp.step (fun k => by rw [impl_indifferent.l2]) ?_
        have rab := opw_rng h (a := a) (b := b) (by omega) (by omega)
        have rbc := opw_rng h (a := b) (b := c) (by omega) (by omega)
        simp only [hwc.e]
        repeat' (first|(with_reducible refine Wp.itetB ?c_ ?_;(case c_=>first|exact Int.natCast_nonneg _|omega|assumption))|(with_reducible refine Wp.itefB ?c_ ?_;(case c_=>first|exact Int.natCast_nonneg _|omega|assumption))|(with_reducible refine Wp.itet ?c_ ?_;(case c_=>first|exact Int.natCast_nonneg _|omega|assumption))|(with_reducible refine Wp.itef ?c_ ?_;(case c_=>first|exact Int.natCast_nonneg _|omega|assumption))|(with_reducible refine Wp.bindE (indiff1_ev h (by omega) (by omega)) ?_)|(exact hT3 (by simp_all))|(exact hF3 (by simp_all))|(simp only [decide_eq_true_eq])|(with_reducible refine Wp.ret ?_)|(with_reducible refine Wp.itet ?c_ ?_;(case c_=>simp only [List.length_append, List.length_cons, List.length_nil, List.length_take, List.length_drop, List.length_replicate]; omega))|(with_reducible refine Wp.iteB (fun hc => ?_) (fun hc => ?_))|(with_reducible refine Wp.ite (fun hc => ?_) (fun hc => ?_)))
        all_goals first | exact hT3 (by simp_all) | exact hF3 (by simp_all)
      · intro hall
        refine Wp.step (fun k => by rw [impl_indifferent.l2]) ?_
        simp only [hwb.e]
        refine Wp.itef (by omega) (hT2 hall)
    · intro hall
      refine Wp.step (fun k => by rw [impl_indifferent.l1]) ?_
      simp only [hw.e]
      refine Wp.itef (by omega) (hT hall)
  · intro _
    refine Wp.step (fun k => by rw [impl_indifferent.l0]) ?_
    refine Wp.itef (by omega) (Wp.ret ?_)
    rw [eqB]; simp
theorem contains_ev (z : Int) (T : List (List Int)) (t : List Int) (hl : t.length ≤ 1000000000) (hz : 1 ≤ z ∧ z ≤ 4) : Ev (fun k => slices_ContainsFunc_int_int__impl_WorldOk_1.f k t z T) (B (∃ i, i < t.length ∧ ¬ (0 ≤ rd t i ∧ rd t i ≤ z - 1)), z, T) := by
  have hw1 : wrap64 (z - 1) = z - 1 := wrap_id (by omega) (by omega)
  have key : Ev (fun k => slices_IndexFunc_int_int__impl_WorldOk_1.f k t z T) (fidx (fun i => ¬ (0 ≤ rd t i ∧ rd t i ≤ z - 1)) t.length 0, z, T) := by
    unfold slices_IndexFunc_int_int__impl_WorldOk_1.f
    refine Wp.find t.length hl (fun k i => slices_IndexFunc_int_int__impl_WorldOk_1.l0 k t t.length i z T) (fun i => (i, z, T)) ?_ ?_
    · intro i P hi hw hT hF
      refine Wp.step (fun k => by rw [slices_IndexFunc_int_int__impl_WorldOk_1.l0]) ?_
      have hc : Ev (fun _ => impl_WorldOk_1_v2.f (rd t i) z T) (B (¬ (0 ≤ rd t i ∧ rd t i ≤ z - 1)), z, T) := by
        unfold impl_WorldOk_1_v2.f
        rw [hw1]
        refine ((impl_from_ev _ _ _).bind Ev.ret).val ?_
        rw [not_B]
      simp only [hw.e]
      repeat' (first|(with_reducible refine Wp.itetB ?c_ ?_;(case c_=>first|exact Int.natCast_nonneg _|omega|assumption))|(with_reducible refine Wp.itefB ?c_ ?_;(case c_=>first|exact Int.natCast_nonneg _|omega|assumption))|(with_reducible refine Wp.itet ?c_ ?_;(case c_=>first|exact Int.natCast_nonneg _|omega|assumption))|(with_reducible refine Wp.itef ?c_ ?_;(case c_=>first|exact Int.natCast_nonneg _|omega|assumption))|(with_reducible refine Wp.bindE (hc) ?_)|(simp only [decide_eq_true_eq])|(with_reducible refine Wp.ret ?_)|(with_reducible refine Wp.itet ?c_ ?_;(case c_=>simp only [List.length_append, List.length_cons, List.length_nil, List.length_take, List.length_drop, List.length_replicate]; omega))|(with_reducible refine Wp.iteB (fun hc => ?_) (fun hc => ?_))|(with_reducible refine Wp.ite (fun hc => ?_) (fun hc => ?_)))
      all_goals first | exact hF (by assumption) | exact hT (by assumption)
    · refine Wp.step (fun k => by rw [slices_IndexFunc_int_int__impl_WorldOk_1.l0]) ?_
      repeat' (first|(with_reducible refine Wp.itetB ?c_ ?_;(case c_=>first|exact Int.natCast_nonneg _|omega|assumption))|(with_reducible refine Wp.itefB ?c_ ?_;(case c_=>first|exact Int.natCast_nonneg _|omega|assumption))|(with_reducible refine Wp.itet ?c_ ?_;(case c_=>first|exact Int.natCast_nonneg _|omega|assumption))|(with_reducible refine Wp.itef ?c_ ?_;(case c_=>first|exact Int.natCast_nonneg _|omega|assumption))|(simp only [decide_eq_true_eq])|(with_reducible refine Wp.ret ?_)|(with_reducible refine Wp.itet ?c_ ?_;(case c_=>simp only [List.length_append, List.length_cons, List.length_nil, List.length_take, List.length_drop, List.length_replicate]; omega))|(with_reducible refine Wp.iteB (fun hc => ?_) (fun hc => ?_))|(with_reducible refine Wp.ite (fun hc => ?_) (fun hc => ?_)))
      all_goals rfl
  unfold slices_ContainsFunc_int_int__impl_WorldOk_1.f
  refine (key.bind Ev.ret).val ?_
  rw [dec_B, B_congr fidx_ge]
def RowOk (s : List I_Sym) (z : Nat) (T : List (List Int)) (i : Nat) : Prop := (rd_Ls_i64 T i).length = z ^ (rd_I_Sym s i).f1.toNat ∧ InR z (rd_Ls_i64 T i) ∧ ((rd_I_Sym s i).f2 = true → Indiff z (rd_Ls_i64 T i))
def WorldOk (s : List I_Sym) (z : Nat) (T : List (List Int)) : Prop := SigOk s ∧ (1 ≤ z ∧ z ≤ 4) ∧ T.length = s.length ∧ ∀ i, i < s.length → RowOk s z T i
/-- all rows are short -/
def Rows (T : List (List Int)) : Prop := ∀ x ∈ T, x.length ≤ 1000000000
theorem rdRow_mem {T : List (List Int)} {i : Int} (h0 : 0 ≤ i) (h1 : i < (T.length : Int)) : rd_Ls_i64 T i ∈ T := rdOf_mem (z := []) h0 h1
theorem inR_rd {z : Nat} {t : List Int} : InR z t ↔ ¬ ∃ i, i < t.length ∧ ¬ (0 ≤ rd t i ∧ rd t i ≤ (z : Int) - 1) := by
  constructor
  · rintro h ⟨i, hi, hn⟩
    have := h _ (rd_mem (t := t) (i := i) (by omega) (by omega))
    omega
  · intro h x hx
    obtain ⟨i, hi, rfl⟩ := List.getElem_of_mem hx
    have e : rd t i = t[i] := by
      show t.getD i 0 = _
      rw [List.getD_eq_getElem?_getD, List.getElem?_eq_getElem hi]; rfl
    rcases Classical.em (0 ≤ rd t i ∧ rd t i ≤ (z : Int) - 1) with h1 | h1
    · rw [e] at h1; omega
    · exact absurd ⟨i, hi, h1⟩ h
theorem impl_WorldOk_ev (s : List I_Sym) (z : Int) (T : List (List Int)) (hs : Names s) (hT : Rows T) : Ev (fun k => impl_WorldOk.f k s z T) (B (0 ≤ z ∧ WorldOk s z.toNat T)) := by
  refine Wp.ev ?_
  unfold impl_WorldOk.f
  repeat' (first|(with_reducible refine Wp.itetB ?c_ ?_;(case c_=>first|exact Int.natCast_nonneg _|omega|assumption))|(with_reducible refine Wp.itefB ?c_ ?_;(case c_=>first|exact Int.natCast_nonneg _|omega|assumption))|(with_reducible refine Wp.itet ?c_ ?_;(case c_=>first|exact Int.natCast_nonneg _|omega|assumption))|(with_reducible refine Wp.itef ?c_ ?_;(case c_=>first|exact Int.natCast_nonneg _|omega|assumption))|(with_reducible refine Wp.bindE (impl_SigOk_ev s hs) ?_)|(with_reducible refine Wp.bindE (impl_from_ev _ _ _) ?_)|(simp only [decide_eq_true_eq])|(with_reducible refine Wp.ret ?_)|(with_reducible refine Wp.itet ?c_ ?_;(case c_=>simp only [List.length_append, List.length_cons, List.length_nil, List.length_take, List.length_drop, List.length_replicate]; omega))|(with_reducible refine Wp.iteB (fun hc => ?_) (fun hc => ?_))|(with_reducible refine Wp.ite (fun hc => ?_) (fun hc => ?_)))
  · rename_i h1 h2
    obtain ⟨z, rfl⟩ : ∃ n : Nat, z = n := ⟨z.toNat, by omega⟩
    refine ((Wp.all (Φ := fun i => RowOk s z T i) (Ψ := True) s.length hs.1 (fun k i => impl_WorldOk.l0 k s s.length i z T) ?_ ?_).val ?_).wp rfl
    · intro i P hi hw hT' hF
      refine Wp.step (fun k => by rw [impl_WorldOk.l0]) ?_
      have hrow := hT _ (rdRow_mem (T := T) (i := i) (by omega) (by omega))
      have sig := h1.1 i hi
      have sq : (rd_Ls_i64 T i).length = z ^ (rd_I_Sym s i).f1.toNat → InR z (rd_Ls_i64 T i) → (rd_I_Sym s i).f2 = true → Sq z (rd_Ls_i64 T i) := by
        intro a b c
        refine ⟨by omega, ?_, b⟩
        rw [a, sig.2.2.2 c]
        show z ^ 2 = z * z
        rw [Nat.pow_two]
      simp only [hw.e]
      have sig3 := sig.2.2.1
      repeat' (first|(with_reducible refine Wp.itetB ?c_ ?_;(case c_=>first|exact Int.natCast_nonneg _|omega|assumption))|(with_reducible refine Wp.itefB ?c_ ?_;(case c_=>first|exact Int.natCast_nonneg _|omega|assumption))|(with_reducible refine Wp.itet ?c_ ?_;(case c_=>first|exact Int.natCast_nonneg _|omega|assumption))|(with_reducible refine Wp.itef ?c_ ?_;(case c_=>first|exact Int.natCast_nonneg _|omega|assumption))|(with_reducible refine Wp.bindE (impl_placesOf_ev z (by omega) _ sig3) ?_)|(with_reducible refine Wp.bindE (contains_ev z T _ hrow (by omega)) ?_)|(with_reducible refine Wp.bindE (impl_indifferent_ev (sq (by omega) (inR_rd.2 (by assumption)) (by assumption))) ?_)|(exact hT' ⟨by omega, inR_rd.2 (by assumption), by simp_all⟩)|(exact hT' ⟨by omega, inR_rd.2 (by assumption), fun _ => by assumption⟩)|(simp only [decide_eq_true_eq])|(with_reducible refine Wp.ret ?_)|(with_reducible refine Wp.itet ?c_ ?_;(case c_=>simp only [List.length_append, List.length_cons, List.length_nil, List.length_take, List.length_drop, List.length_replicate]; omega))|(with_reducible refine Wp.iteB (fun hc => ?_) (fun hc => ?_))|(with_reducible refine Wp.ite (fun hc => ?_) (fun hc => ?_)))
      all_goals first | exact hT' ⟨by omega, inR_rd.2 (by assumption), by simp_all⟩ | exact hT' ⟨by omega, inR_rd.2 (by assumption), fun _ => by assumption⟩ | skip
      all_goals refine hF ?_
      · intro h; have := inR_rd.1 h.2.1; contradiction
      · intro h; exact absurd (h.2.2 (by assumption)) (by assumption)
      · intro h; have := h.1; omega
    · intro _
      refine Wp.step (fun k => by rw [impl_WorldOk.l0]) ?_
      refine Wp.itef (by omega) (Wp.ret ?_)
      rw [eqB]; simp
    · refine B_congr ⟨fun h => ⟨by omega, h1, by omega, by omega, h.1⟩, fun h => ⟨h.2.2.2.2, trivial⟩⟩
  all_goals (rw [eqB]; simp only [Bool.false_eq_true, false_iff]; rintro ⟨_, h1, h2, h3, h4⟩; first | omega | contradiction)
/-! #### orders, one form -/
theorem ord_int (a b : Int) : compare a b = if a < b then .lt else if a = b then .eq else .gt := by
  rcases Int.lt_trichotomy a b with h | h | h
  · rw [if_pos h]; exact Int.compare_eq_lt.2 h
  · rw [if_neg (by omega), if_pos h]; exact Int.compare_eq_eq.2 h
  · rw [if_neg (by omega), if_neg (by omega)]; exact Int.compare_eq_gt.2 h
theorem ord_nat (a b : Nat) : compare a b = compare (a : Int) (b : Int) := by
  rw [ord_int]
  rcases Nat.lt_trichotomy a b with h | h | h
  · rw [if_pos (by omega)]; exact Nat.compare_eq_lt.2 h
  · rw [if_neg (by omega), if_pos (by omega)]; exact Nat.compare_eq_eq.2 h
  · rw [if_neg (by omega), if_neg (by omega)]; exact Nat.compare_eq_gt.2 h
theorem spec_TermSame_ev (a : I_Term) : sz a ≤ 1000000000 → ∀ b : I_Term, Ev (fun k => spec_TermSame.f k a.f0 a.f1 a.f2 b.f0 b.f1 b.f2) (B (a = b)) := by
  induction a using tInd with
  | h a ih =>
  intro hs b
  have hlen := sz_kids a
  refine Wp.ev ?_
  refine Wp.step (fun k => by rw [spec_TermSame.f]) ?_
  have eqt : a.f0 = b.f0 → a.f1 = b.f1 → (a = b ↔ a.f2 = b.f2) := by
    intro h0 h1
    constructor
    · rintro rfl; rfl
    · intro h2; cases a; cases b; simp_all
  repeat' (first|(with_reducible refine Wp.itetB ?c_ ?_;(case c_=>first|exact Int.natCast_nonneg _|omega|assumption))|(with_reducible refine Wp.itefB ?c_ ?_;(case c_=>first|exact Int.natCast_nonneg _|omega|assumption))|(with_reducible refine Wp.itet ?c_ ?_;(case c_=>first|exact Int.natCast_nonneg _|omega|assumption))|(with_reducible refine Wp.itef ?c_ ?_;(case c_=>first|exact Int.natCast_nonneg _|omega|assumption))|(simp only [decide_eq_true_eq])|(with_reducible refine Wp.ret ?_)|(with_reducible refine Wp.itet ?c_ ?_;(case c_=>simp only [List.length_append, List.length_cons, List.length_nil, List.length_take, List.length_drop, List.length_replicate]; omega))|(with_reducible refine Wp.iteB (fun hc => ?_) (fun hc => ?_))|(with_reducible refine Wp.ite (fun hc => ?_) (fun hc => ?_)))
  · have hll : a.f2.length = b.f2.length := by omega
    have e := eqt (by assumption) (by assumption)
    refine Wp.both a.f2 zI_Term b.f2 zI_Term hll (by omega) (fun k i => spec_TermSame.l0 k i a.f0 a.f1 a.f2 b.f0 b.f1 b.f2) (fun p p' => p = p') ?_ ?_ rfl
    · intro p x q p' x' q' e1 e2 hp m m' hn hr hr' hw hI ih2
      refine Wp.step (fun k => by rw [spec_TermSame.l0]) ?_
      have ihx := ih x m (by have := sz_kid m; omega) x'
      have r1 : rd_I_Term a.f2 (p.length : Int) = x := hr
      have r2 : rd_I_Term b.f2 (p.length : Int) = x' := hr'
      simp only [hw.e, r1, r2]
      repeat' (first|(with_reducible refine Wp.itetB ?c_ ?_;(case c_=>first|exact Int.natCast_nonneg _|omega|assumption))|(with_reducible refine Wp.itefB ?c_ ?_;(case c_=>first|exact Int.natCast_nonneg _|omega|assumption))|(with_reducible refine Wp.itet ?c_ ?_;(case c_=>first|exact Int.natCast_nonneg _|omega|assumption))|(with_reducible refine Wp.itef ?c_ ?_;(case c_=>first|exact Int.natCast_nonneg _|omega|assumption))|(with_reducible refine Wp.bindE (ihx) ?_)|(exact ih2 (by rw [hI, hc]))|(simp only [decide_eq_true_eq])|(with_reducible refine Wp.ret ?_)|(with_reducible refine Wp.itet ?c_ ?_;(case c_=>simp only [List.length_append, List.length_cons, List.length_nil, List.length_take, List.length_drop, List.length_replicate]; omega))|(with_reducible refine Wp.iteB (fun hc => ?_) (fun hc => ?_))|(with_reducible refine Wp.ite (fun hc => ?_) (fun hc => ?_)))
      rw [eqB, e, e1, e2, hI]
      simp [hc]
    · intro hI
      refine Wp.step (fun k => by rw [spec_TermSame.l0]) ?_
      repeat' (first|(with_reducible refine Wp.itetB ?c_ ?_;(case c_=>first|exact Int.natCast_nonneg _|omega|assumption))|(with_reducible refine Wp.itefB ?c_ ?_;(case c_=>first|exact Int.natCast_nonneg _|omega|assumption))|(with_reducible refine Wp.itet ?c_ ?_;(case c_=>first|exact Int.natCast_nonneg _|omega|assumption))|(with_reducible refine Wp.itef ?c_ ?_;(case c_=>first|exact Int.natCast_nonneg _|omega|assumption))|(simp only [decide_eq_true_eq])|(with_reducible refine Wp.ret ?_)|(with_reducible refine Wp.itet ?c_ ?_;(case c_=>simp only [List.length_append, List.length_cons, List.length_nil, List.length_take, List.length_drop, List.length_replicate]; omega))|(with_reducible refine Wp.iteB (fun hc => ?_) (fun hc => ?_))|(with_reducible refine Wp.ite (fun hc => ?_) (fun hc => ?_)))
      rw [eqB, e]; exact ⟨fun _ => hI, fun _ => rfl⟩
  all_goals (rw [eqB]; simp only [Bool.false_eq_true, false_iff]; rintro rfl; exact absurd rfl hc)
theorem spec_Before_ev (a : I_Term) : sz a ≤ 1000000000 → ∀ b : I_Term, Ev (fun k => spec_Before.f k a.f0 a.f1 a.f2 b.f0 b.f1 b.f2) (bef a b) := by
  induction a using tInd with
  | h a ih =>
  intro hs b
  have hlen := sz_kids a
  refine Wp.ev ?_
  refine Wp.step (fun k => by rw [spec_Before.f]) ?_
  unfold bef
  rw [cmpT_eq, ord_nat, ord_int, ord_int, ord_int]
  repeat' (first|(with_reducible refine Wp.itetB ?c_ ?_;(case c_=>first|exact Int.natCast_nonneg _|omega|assumption))|(with_reducible refine Wp.itefB ?c_ ?_;(case c_=>first|exact Int.natCast_nonneg _|omega|assumption))|(with_reducible refine Wp.itet ?c_ ?_;(case c_=>first|exact Int.natCast_nonneg _|omega|assumption))|(with_reducible refine Wp.itef ?c_ ?_;(case c_=>first|exact Int.natCast_nonneg _|omega|assumption))|(simp only [decide_eq_true_eq])|(with_reducible refine Wp.ret ?_)|(with_reducible refine Wp.itet ?c_ ?_;(case c_=>simp only [List.length_append, List.length_cons, List.length_nil, List.length_take, List.length_drop, List.length_replicate]; omega))|(with_reducible refine Wp.iteB (fun hc => ?_) (fun hc => ?_))|(with_reducible refine Wp.ite (fun hc => ?_) (fun hc => ?_)))
  · have hll : a.f2.length = b.f2.length := by omega
    rw [if_neg (by omega), if_pos (by omega), if_neg (by omega), if_pos (by omega), if_neg (by omega), if_pos (by omega)]
    refine Wp.both a.f2 zI_Term b.f2 zI_Term hll (by omega) (fun k i => spec_Before.l0 k i a.f0 a.f1 a.f2 b.f0 b.f1 b.f2) (fun p p' => p = p') ?_ ?_ rfl
    · intro p x q p' x' q' e1 e2 hp m m' hn hr hr' hw hI ih2
      refine Wp.step (fun k => by rw [spec_Before.l0]) ?_
      have hx := sz_kid m
      have ihx := ih x m (by omega) x'
      have r1 : rd_I_Term a.f2 (p.length : Int) = x := hr
      have r2 : rd_I_Term b.f2 (p.length : Int) = x' := hr'
      simp only [hw.e, r1, r2]
      repeat' (first|(with_reducible refine Wp.itetB ?c_ ?_;(case c_=>first|exact Int.natCast_nonneg _|omega|assumption))|(with_reducible refine Wp.itefB ?c_ ?_;(case c_=>first|exact Int.natCast_nonneg _|omega|assumption))|(with_reducible refine Wp.itet ?c_ ?_;(case c_=>first|exact Int.natCast_nonneg _|omega|assumption))|(with_reducible refine Wp.itef ?c_ ?_;(case c_=>first|exact Int.natCast_nonneg _|omega|assumption))|(with_reducible refine Wp.bindE (spec_TermSame_ev x (by omega) x') ?_)|(with_reducible refine Wp.bindE (ihx) ?_)|(exact ih2 (by rw [hI, hc]))|(simp only [decide_eq_true_eq])|(with_reducible refine Wp.ret ?_)|(with_reducible refine Wp.itet ?c_ ?_;(case c_=>simp only [List.length_append, List.length_cons, List.length_nil, List.length_take, List.length_drop, List.length_replicate]; omega))|(with_reducible refine Wp.iteB (fun hc => ?_) (fun hc => ?_))|(with_reducible refine Wp.ite (fun hc => ?_) (fun hc => ?_)))
      have hne := hc
      rw [e1, e2, hI, cmpTs_pre, cmpTs]
      unfold bef
      have : cmpT x x' ≠ .eq := fun h => hne (cmpT_same.1 h)
      cases h : cmpT x x'
      · rfl
      · exact absurd h this
      · rfl
    · intro hI
      refine Wp.step (fun k => by rw [spec_Before.l0]) ?_
      repeat' (first|(with_reducible refine Wp.itetB ?c_ ?_;(case c_=>first|exact Int.natCast_nonneg _|omega|assumption))|(with_reducible refine Wp.itefB ?c_ ?_;(case c_=>first|exact Int.natCast_nonneg _|omega|assumption))|(with_reducible refine Wp.itet ?c_ ?_;(case c_=>first|exact Int.natCast_nonneg _|omega|assumption))|(with_reducible refine Wp.itef ?c_ ?_;(case c_=>first|exact Int.natCast_nonneg _|omega|assumption))|(simp only [decide_eq_true_eq])|(with_reducible refine Wp.ret ?_)|(with_reducible refine Wp.itet ?c_ ?_;(case c_=>simp only [List.length_append, List.length_cons, List.length_nil, List.length_take, List.length_drop, List.length_replicate]; omega))|(with_reducible refine Wp.iteB (fun hc => ?_) (fun hc => ?_))|(with_reducible refine Wp.ite (fun hc => ?_) (fun hc => ?_)))
      rw [hI]
      have := cmpTs_pre b.f2 [] []
      rw [List.append_nil, cmpTs] at this
      rw [this]; rfl
  · rw [if_neg (by omega), if_pos (by omega), if_neg (by omega), if_pos (by omega)]
    by_cases h : (a.f2.length : Int) < (b.f2.length : Int)
    · rw [if_pos h]; simp [h, Ordering.then]
    · rw [if_neg h, if_neg hc]; simp [h, Ordering.then]
  · rw [if_neg (by omega), if_pos (by omega)]
    by_cases h : a.f1 < b.f1
    · rw [if_pos h]; simp [h, Ordering.then]
    · rw [if_neg h, if_neg hc]; simp [h, Ordering.then]
  · by_cases h : a.f0 < b.f0
    · rw [if_pos h]; simp [h, Ordering.then]
    · rw [if_neg h, if_neg hc]; simp [h, Ordering.then]
def Blind (s : List I_Sym) (f : Int) : Prop := 0 ≤ f ∧ f < (s.length : Int) ∧ (rd_I_Sym s f).f2 = true
theorem spec_Blind_ev (s : List I_Sym) (h : Names s) (f : Int) : Ev (fun _ => spec_Blind.f s f) (B (Blind s f)) := by
  refine Wp.ev ?_
  unfold spec_Blind.f
  have h1 := h.1
  simp only [wrap_id (x := (s.length : Int) - 1) (by omega) (by omega)]
  repeat' (first|(with_reducible refine Wp.itetB ?c_ ?_;(case c_=>first|exact Int.natCast_nonneg _|omega|assumption))|(with_reducible refine Wp.itefB ?c_ ?_;(case c_=>first|exact Int.natCast_nonneg _|omega|assumption))|(with_reducible refine Wp.itet ?c_ ?_;(case c_=>first|exact Int.natCast_nonneg _|omega|assumption))|(with_reducible refine Wp.itef ?c_ ?_;(case c_=>first|exact Int.natCast_nonneg _|omega|assumption))|(with_reducible refine Wp.bindE (spec_l1In_ev _ _ _) ?_)|(simp only [decide_eq_true_eq])|(with_reducible refine Wp.ret ?_)|(with_reducible refine Wp.itet ?c_ ?_;(case c_=>simp only [List.length_append, List.length_cons, List.length_nil, List.length_take, List.length_drop, List.length_replicate]; omega))|(with_reducible refine Wp.iteB (fun hc => ?_) (fun hc => ?_))|(with_reducible refine Wp.ite (fun hc => ?_) (fun hc => ?_)))
  all_goals (rw [eqB]; unfold Blind; simp_all; try omega)
theorem takeAt {α : Type} (p q : List α) : (p ++ q).take p.length = p := by simp
theorem dropAt {α : Type} (p q : List α) : (p ++ q).drop p.length = q := by simp
theorem toNatCast (n : Nat) : (n : Int).toNat = n := rfl
def cmpB : Bool → Bool → Ordering
  | false, true => .lt
  | true, false => .gt
  | _, _ => .eq
def cmpL (a b : I_Lit) : Ordering := (cmpB a.f0 b.f0).then ((cmpT a.f1 b.f1).then (cmpT a.f2 b.f2))
def litBef (a b : I_Lit) : Bool := cmpL a b == .lt
def szL (l : I_Lit) : Nat := sz l.f1 + sz l.f2
def szC : List I_Lit → Nat
  | [] => 0
  | l :: r => szL l + szC r
theorem szL_pos (l : I_Lit) : 1 ≤ szL l := by have := sz_eq l.f1; unfold szL; omega
theorem szC_len (c : List I_Lit) : c.length ≤ szC c := by
  induction c with
  | nil => simp
  | cons a c ih => have := szL_pos a; rw [List.length_cons, szC]; omega
theorem szC_app (a b : List I_Lit) : szC (a ++ b) = szC a + szC b := by
  induction a with
  | nil => simp [szC]
  | cons x a ih => rw [List.cons_append, szC, szC, ih]; omega
theorem szC_mem {c : List I_Lit} {l : I_Lit} (h : l ∈ c) : szL l ≤ szC c := by
  induction c with
  | nil => cases h
  | cons a c ih =>
    rw [szC]
    rcases List.mem_cons.1 h with rfl | h
    · omega
    · have := ih h; omega
theorem spec_LitBefore_ev (a b : I_Lit) (ha : szL a ≤ 1000000000) : Ev (fun k => spec_LitBefore.f k a.f0 a.f1.f0 a.f1.f1 a.f1.f2 a.f2.f0 a.f2.f1 a.f2.f2 b.f0 b.f1.f0 b.f1.f1 b.f1.f2 b.f2.f0 b.f2.f1 b.f2.f2) (litBef a b) := by
  refine Wp.ev ?_
  unfold spec_LitBefore.f
  have h1 : sz a.f1 ≤ 1000000000 := by unfold szL at ha; omega
  have h2 : sz a.f2 ≤ 1000000000 := by unfold szL at ha; omega
  have h0 : a.f0 = b.f0 → cmpB a.f0 b.f0 = .eq := by intro h; rw [h]; cases b.f0 <;> rfl
  repeat' (first|(with_reducible refine Wp.itetB ?c_ ?_;(case c_=>first|exact Int.natCast_nonneg _|omega|assumption))|(with_reducible refine Wp.itefB ?c_ ?_;(case c_=>first|exact Int.natCast_nonneg _|omega|assumption))|(with_reducible refine Wp.itet ?c_ ?_;(case c_=>first|exact Int.natCast_nonneg _|omega|assumption))|(with_reducible refine Wp.itef ?c_ ?_;(case c_=>first|exact Int.natCast_nonneg _|omega|assumption))|(with_reducible refine Wp.bindE (spec_TermSame_ev a.f1 h1 b.f1) ?_)|(with_reducible refine Wp.bindE (spec_Before_ev a.f1 h1 b.f1) ?_)|(with_reducible refine Wp.bindE (spec_Before_ev a.f2 h2 b.f2) ?_)|(simp only [decide_eq_true_eq])|(with_reducible refine Wp.ret ?_)|(with_reducible refine Wp.itet ?c_ ?_;(case c_=>simp only [List.length_append, List.length_cons, List.length_nil, List.length_take, List.length_drop, List.length_replicate]; omega))|(with_reducible refine Wp.iteB (fun hc => ?_) (fun hc => ?_))|(with_reducible refine Wp.ite (fun hc => ?_) (fun hc => ?_)))
  · rename_i hf
    unfold litBef cmpL bef
    rw [h0 hf, cmpT_same.2 hc]; rfl
  · rename_i hf
    unfold litBef cmpL bef
    have : cmpT a.f1 b.f1 ≠ .eq := fun h => hc (cmpT_same.1 h)
    rw [h0 hf]
    cases h : cmpT a.f1 b.f1
    · rfl
    · exact absurd h this
    · rfl
  · unfold litBef cmpL
    cases h : a.f0 <;> cases h' : b.f0 <;> simp_all [cmpB, Ordering.then]
/-! #### numbers in lists, variables -/
def insN (n : Int) : List Int → List Int
  | [] => [n]
  | a :: r => if a < n then a :: insN n r else n :: a :: r
noncomputable def numAdd (l : List Int) (n : Int) : List Int := if B (n ∈ l) = true then l else insN n l
theorem insN_at (n : Int) (p q : List Int) (h : ∀ x ∈ p, x < n) : insN n (p ++ q) = p ++ insN n q := by
  induction p with
  | nil => rfl
  | cons a p ih => rw [List.cons_append, insN, if_pos (h a (by simp)), ih (fun x hx => h x (by simp [hx]))]; rfl
theorem insN_len (n : Int) (l : List Int) : (insN n l).length = l.length + 1 := by
  induction l with
  | nil => rfl
  | cons a l ih =>
    rw [insN]
    split
    · rw [List.length_cons, ih]; rfl
    · rfl
theorem numAdd_len (l : List Int) (n : Int) : (numAdd l n).length ≤ l.length + 1 := by
  unfold numAdd
  split
  · omega
  · rw [insN_len]; omega
theorem spec_NumIn_ev (l : List Int) (n : Int) (h : l.length ≤ 1000000000) : Ev (fun k => spec_NumIn.f k l n) (B (n ∈ l)) := by
  unfold spec_NumIn.f
  refine Wp.ev (Wp.each0 l 0 h (fun k i => spec_NumIn.l0 k l n i) (fun p => n ∉ p) ?_ ?_ (by simp))
  · intro p x q e m hn hr hw hI ih
    refine Wp.step (fun k => by rw [spec_NumIn.l0]) ?_
    have r1 : rd l (p.length : Int) = x := hr
    simp only [hw.e, r1]
    have ih2 : ¬ x = n → _ := fun h0 => ih (fun h => (List.mem_append.1 h).elim hI (fun h => h0 (List.mem_singleton.1 h).symm))
    repeat' (first|(with_reducible refine Wp.itetB ?c_ ?_;(case c_=>first|exact Int.natCast_nonneg _|omega|assumption))|(with_reducible refine Wp.itefB ?c_ ?_;(case c_=>first|exact Int.natCast_nonneg _|omega|assumption))|(with_reducible refine Wp.itet ?c_ ?_;(case c_=>first|exact Int.natCast_nonneg _|omega|assumption))|(with_reducible refine Wp.itef ?c_ ?_;(case c_=>first|exact Int.natCast_nonneg _|omega|assumption))|(exact ih2 hc)|(simp only [decide_eq_true_eq])|(with_reducible refine Wp.ret ?_)|(with_reducible refine Wp.itet ?c_ ?_;(case c_=>simp only [List.length_append, List.length_cons, List.length_nil, List.length_take, List.length_drop, List.length_replicate]; omega))|(with_reducible refine Wp.iteB (fun hc => ?_) (fun hc => ?_))|(with_reducible refine Wp.ite (fun hc => ?_) (fun hc => ?_)))
    exact eqB.2 ⟨fun _ => hc ▸ m, fun _ => rfl⟩
  · intro hI
    refine Wp.step (fun k => by rw [spec_NumIn.l0]) ?_
    repeat' (first|(with_reducible refine Wp.itetB ?c_ ?_;(case c_=>first|exact Int.natCast_nonneg _|omega|assumption))|(with_reducible refine Wp.itefB ?c_ ?_;(case c_=>first|exact Int.natCast_nonneg _|omega|assumption))|(with_reducible refine Wp.itet ?c_ ?_;(case c_=>first|exact Int.natCast_nonneg _|omega|assumption))|(with_reducible refine Wp.itef ?c_ ?_;(case c_=>first|exact Int.natCast_nonneg _|omega|assumption))|(simp only [decide_eq_true_eq])|(with_reducible refine Wp.ret ?_)|(with_reducible refine Wp.itet ?c_ ?_;(case c_=>simp only [List.length_append, List.length_cons, List.length_nil, List.length_take, List.length_drop, List.length_replicate]; omega))|(with_reducible refine Wp.iteB (fun hc => ?_) (fun hc => ?_))|(with_reducible refine Wp.ite (fun hc => ?_) (fun hc => ?_)))
    exact eqB.2 ⟨fun h => absurd h (by decide), fun h => absurd h hI⟩
theorem spec_NumAdd_ev (l : List Int) (n : Int) (h : l.length ≤ 1000000000) : Ev (fun k => spec_NumAdd.f k l n) (numAdd l n) := by
  refine Wp.ev ?_
  unfold spec_NumAdd.f
  repeat' (first|(with_reducible refine Wp.itetB ?c_ ?_;(case c_=>first|exact Int.natCast_nonneg _|omega|assumption))|(with_reducible refine Wp.itefB ?c_ ?_;(case c_=>first|exact Int.natCast_nonneg _|omega|assumption))|(with_reducible refine Wp.itet ?c_ ?_;(case c_=>first|exact Int.natCast_nonneg _|omega|assumption))|(with_reducible refine Wp.itef ?c_ ?_;(case c_=>first|exact Int.natCast_nonneg _|omega|assumption))|(with_reducible refine Wp.bindE (spec_NumIn_ev l n (by omega)) ?_)|(simp only [decide_eq_true_eq])|(with_reducible refine Wp.ret ?_)|(with_reducible refine Wp.itet ?c_ ?_;(case c_=>simp only [List.length_append, List.length_cons, List.length_nil, List.length_take, List.length_drop, List.length_replicate]; omega))|(with_reducible refine Wp.iteB (fun hc => ?_) (fun hc => ?_))|(with_reducible refine Wp.ite (fun hc => ?_) (fun hc => ?_)))
  · rw [numAdd, if_pos (B_iff.2 (by assumption))]; simp
  · rw [numAdd, if_neg (fun h => hc (B_iff.1 h))]
    refine Wp.each0 l 0 (by omega) (fun k i => spec_NumAdd.l0 k l n i) (fun p => ∀ x ∈ p, x < n) ?_ ?_ (by simp)
    · intro p x q e m hn hr hw hI ih
      refine Wp.step (fun k => by rw [spec_NumAdd.l0]) ?_
      have r1 : rd l (p.length : Int) = x := hr
      have ht : l.take p.length = p := by rw [e]; exact takeAt p _
      have hd : l.drop p.length = x :: q := by rw [e]; exact dropAt p _
      simp only [hw.e, r1, toNatCast, ht, hd]
      repeat' (first|(with_reducible refine Wp.itetB ?c_ ?_;(case c_=>first|exact Int.natCast_nonneg _|omega|assumption))|(with_reducible refine Wp.itefB ?c_ ?_;(case c_=>first|exact Int.natCast_nonneg _|omega|assumption))|(with_reducible refine Wp.itet ?c_ ?_;(case c_=>first|exact Int.natCast_nonneg _|omega|assumption))|(with_reducible refine Wp.itef ?c_ ?_;(case c_=>first|exact Int.natCast_nonneg _|omega|assumption))|(exact ih (snocAll hI hc))|(simp only [decide_eq_true_eq])|(with_reducible refine Wp.ret ?_)|(with_reducible refine Wp.itet ?c_ ?_;(case c_=>simp only [List.length_append, List.length_cons, List.length_nil, List.length_take, List.length_drop, List.length_replicate]; omega))|(with_reducible refine Wp.iteB (fun hc => ?_) (fun hc => ?_))|(with_reducible refine Wp.ite (fun hc => ?_) (fun hc => ?_)))
      rw [e, insN_at n p _ hI, insN, if_neg (by assumption)]
      simp
    · intro hI
      refine Wp.step (fun k => by rw [spec_NumAdd.l0]) ?_
      have ht : l.take l.length = l := List.take_length
      have hd : l.drop l.length = [] := List.drop_length
      simp only [toNatCast, ht, hd]
      repeat' (first|(with_reducible refine Wp.itetB ?c_ ?_;(case c_=>first|exact Int.natCast_nonneg _|omega|assumption))|(with_reducible refine Wp.itefB ?c_ ?_;(case c_=>first|exact Int.natCast_nonneg _|omega|assumption))|(with_reducible refine Wp.itet ?c_ ?_;(case c_=>first|exact Int.natCast_nonneg _|omega|assumption))|(with_reducible refine Wp.itef ?c_ ?_;(case c_=>first|exact Int.natCast_nonneg _|omega|assumption))|(simp only [decide_eq_true_eq])|(with_reducible refine Wp.ret ?_)|(with_reducible refine Wp.itet ?c_ ?_;(case c_=>simp only [List.length_append, List.length_cons, List.length_nil, List.length_take, List.length_drop, List.length_replicate]; omega))|(with_reducible refine Wp.iteB (fun hc => ?_) (fun hc => ?_))|(with_reducible refine Wp.ite (fun hc => ?_) (fun hc => ?_)))
      have := insN_at n l [] hI
      rw [List.append_nil] at this
      rw [this, insN]
      simp
theorem impl_NumIn_ev (l : List Int) (n : Int) (h : l.length ≤ 1000000000) : Ev (fun k => impl_NumIn.f k l n) (B (n ∈ l)) := by
  have key : Ev (fun k => slices_Index_int_int.f k l n) (fidx (fun i => n = rd l i) l.length 0) := by
    unfold slices_Index_int_int.f
    refine Wp.find l.length h (fun k i => slices_Index_int_int.l0 k l n l.length i) (fun i => i) ?_ ?_
    · intro i P hi hw hT hF
      refine Wp.step (fun k => by rw [slices_Index_int_int.l0]) ?_
      simp only [hw.e]
      repeat' (first|(with_reducible refine Wp.itetB ?c_ ?_;(case c_=>first|exact Int.natCast_nonneg _|omega|assumption))|(with_reducible refine Wp.itefB ?c_ ?_;(case c_=>first|exact Int.natCast_nonneg _|omega|assumption))|(with_reducible refine Wp.itet ?c_ ?_;(case c_=>first|exact Int.natCast_nonneg _|omega|assumption))|(with_reducible refine Wp.itef ?c_ ?_;(case c_=>first|exact Int.natCast_nonneg _|omega|assumption))|(simp only [decide_eq_true_eq])|(with_reducible refine Wp.ret ?_)|(with_reducible refine Wp.itet ?c_ ?_;(case c_=>simp only [List.length_append, List.length_cons, List.length_nil, List.length_take, List.length_drop, List.length_replicate]; omega))|(with_reducible refine Wp.iteB (fun hc => ?_) (fun hc => ?_))|(with_reducible refine Wp.ite (fun hc => ?_) (fun hc => ?_)))
      all_goals first | exact hF (by assumption) | exact hT (by assumption)
    · refine Wp.step (fun k => by rw [slices_Index_int_int.l0]) ?_
      repeat' (first|(with_reducible refine Wp.itetB ?c_ ?_;(case c_=>first|exact Int.natCast_nonneg _|omega|assumption))|(with_reducible refine Wp.itefB ?c_ ?_;(case c_=>first|exact Int.natCast_nonneg _|omega|assumption))|(with_reducible refine Wp.itet ?c_ ?_;(case c_=>first|exact Int.natCast_nonneg _|omega|assumption))|(with_reducible refine Wp.itef ?c_ ?_;(case c_=>first|exact Int.natCast_nonneg _|omega|assumption))|(simp only [decide_eq_true_eq])|(with_reducible refine Wp.ret ?_)|(with_reducible refine Wp.itet ?c_ ?_;(case c_=>simp only [List.length_append, List.length_cons, List.length_nil, List.length_take, List.length_drop, List.length_replicate]; omega))|(with_reducible refine Wp.iteB (fun hc => ?_) (fun hc => ?_))|(with_reducible refine Wp.ite (fun hc => ?_) (fun hc => ?_)))
      all_goals rfl
  have k2 : Ev (fun k => slices_Contains_int_int.f k l n) (B (n ∈ l)) := by
    unfold slices_Contains_int_int.f
    refine (key.bind Ev.ret).val ?_
    rw [dec_B, B_congr (fidx_ge.trans ?_)]
    constructor
    · rintro ⟨i, hi, rfl⟩; exact rd_mem (by omega) (by omega)
    · intro hm
      obtain ⟨i, hi, rfl⟩ := List.getElem_of_mem hm
      refine ⟨i, hi, ?_⟩
      show _ = l.getD i 0
      rw [List.getD_eq_getElem?_getD, List.getElem?_eq_getElem hi]; rfl
  unfold impl_NumIn.f
  exact k2.bind Ev.ret
theorem rd_at (p : List Int) (x : Int) (q : List Int) : rd (p ++ x :: q) (p.length : Int) = x := rdOf_at 0 p x q
theorem insN_idx (n : Int) (l : List Int) (hn : n ∉ l) (j : Nat) (hj : j ≤ l.length) (h1 : ∀ i, i < j → rd l i < n) (h2 : j < l.length → n < rd l j) : insN n l = l.take j ++ n :: l.drop j := by
  have e : l = l.take j ++ l.drop j := (List.take_append_drop j l).symm
  have hp : ∀ x ∈ l.take j, x < n := by
    intro x hx
    obtain ⟨i, hi, rfl⟩ := List.getElem_of_mem hx
    rw [List.length_take] at hi
    have := h1 i (by omega)
    have e2 : rd l i = l[i]'(by omega) := by
      show l.getD i 0 = _
      rw [List.getD_eq_getElem?_getD, List.getElem?_eq_getElem (by omega)]; rfl
    rw [List.getElem_take]
    omega
  have h3 := insN_at n (l.take j) (l.drop j) hp
  rw [← e] at h3
  rw [h3]
  congr 1
  cases hd : l.drop j with
  | nil => rfl
  | cons a r =>
    have hlt : j < l.length := by
      have : (l.drop j).length = r.length + 1 := by rw [hd]; rfl
      rw [List.length_drop] at this; omega
    have ea : rd l j = a := by
      show l.getD j 0 = a
      rw [List.getD_eq_getElem?_getD, ← List.head?_drop, hd]; rfl
    have := h2 hlt
    rw [insN, if_neg (by omega)]
theorem impl_Insert_ev (l : List Int) (j : Nat) (hj : j ≤ l.length) (n : Int) (h : l.length ≤ 1000000000) : Ev (fun _ => slices_Insert_int_int.f l j [n]) (l.take j ++ n :: l.drop j) := by
  refine Wp.ev ?_
  unfold slices_Insert_int_int.f insF
  have one : ([n] : List Int).length = 1 := rfl
  repeat' (first|(with_reducible refine Wp.itetB ?c_ ?_;(case c_=>first|exact Int.natCast_nonneg _|omega|assumption))|(with_reducible refine Wp.itefB ?c_ ?_;(case c_=>first|exact Int.natCast_nonneg _|omega|assumption))|(with_reducible refine Wp.itet ?c_ ?_;(case c_=>first|exact Int.natCast_nonneg _|omega|assumption))|(with_reducible refine Wp.itef ?c_ ?_;(case c_=>first|exact Int.natCast_nonneg _|omega|assumption))|(simp only [decide_eq_true_eq])|(with_reducible refine Wp.ret ?_)|(with_reducible refine Wp.itet ?c_ ?_;(case c_=>simp only [List.length_append, List.length_cons, List.length_nil, List.length_take, List.length_drop, List.length_replicate]; omega))|(with_reducible refine Wp.iteB (fun hc => ?_) (fun hc => ?_))|(with_reducible refine Wp.ite (fun hc => ?_) (fun hc => ?_)))
  rfl
theorem impl_NumAdd_ev (l : List Int) (n : Int) (h : l.length ≤ 1000000000) : Ev (fun k => impl_NumAdd.f k l n) (numAdd l n) := by
  have key : Ev (fun k => slices_IndexFunc_int_int__impl_NumAdd_1.f k l n) (fidx (fun i => rd l i > n) l.length 0, n) := by
    unfold slices_IndexFunc_int_int__impl_NumAdd_1.f
    refine Wp.find l.length (by omega) (fun k i => slices_IndexFunc_int_int__impl_NumAdd_1.l0 k l l.length i n) (fun i => (i, n)) ?_ ?_
    · intro i P hi hw hT hF
      refine Wp.step (fun k => by rw [slices_IndexFunc_int_int__impl_NumAdd_1.l0]) ?_
      simp only [hw.e, impl_NumAdd_1_v2.f, Option.bind_some]
      repeat' (first|(with_reducible refine Wp.itetB ?c_ ?_;(case c_=>first|exact Int.natCast_nonneg _|omega|assumption))|(with_reducible refine Wp.itefB ?c_ ?_;(case c_=>first|exact Int.natCast_nonneg _|omega|assumption))|(with_reducible refine Wp.itet ?c_ ?_;(case c_=>first|exact Int.natCast_nonneg _|omega|assumption))|(with_reducible refine Wp.itef ?c_ ?_;(case c_=>first|exact Int.natCast_nonneg _|omega|assumption))|(simp only [decide_eq_true_eq])|(with_reducible refine Wp.ret ?_)|(with_reducible refine Wp.itet ?c_ ?_;(case c_=>simp only [List.length_append, List.length_cons, List.length_nil, List.length_take, List.length_drop, List.length_replicate]; omega))|(with_reducible refine Wp.iteB (fun hc => ?_) (fun hc => ?_))|(with_reducible refine Wp.ite (fun hc => ?_) (fun hc => ?_)))
      all_goals first | exact hF (by assumption) | exact hT (by assumption)
    · refine Wp.step (fun k => by rw [slices_IndexFunc_int_int__impl_NumAdd_1.l0]) ?_
      repeat' (first|(with_reducible refine Wp.itetB ?c_ ?_;(case c_=>first|exact Int.natCast_nonneg _|omega|assumption))|(with_reducible refine Wp.itefB ?c_ ?_;(case c_=>first|exact Int.natCast_nonneg _|omega|assumption))|(with_reducible refine Wp.itet ?c_ ?_;(case c_=>first|exact Int.natCast_nonneg _|omega|assumption))|(with_reducible refine Wp.itef ?c_ ?_;(case c_=>first|exact Int.natCast_nonneg _|omega|assumption))|(simp only [decide_eq_true_eq])|(with_reducible refine Wp.ret ?_)|(with_reducible refine Wp.itet ?c_ ?_;(case c_=>simp only [List.length_append, List.length_cons, List.length_nil, List.length_take, List.length_drop, List.length_replicate]; omega))|(with_reducible refine Wp.iteB (fun hc => ?_) (fun hc => ?_))|(with_reducible refine Wp.ite (fun hc => ?_) (fun hc => ?_)))
      all_goals rfl
  have cl : Ev (fun _ => slices_Clone_int_int.f l) l := Ev.cst (by unfold slices_Clone_int_int.f; rw [if_pos (by omega)])
  refine Wp.ev ?_
  unfold impl_NumAdd.f
  have hnin : n ∉ l → ∀ i : Nat, i < l.length → ¬ rd l i > n → rd l i < n := by
    intro hin i hi h
    have hm : rd l i ∈ l := rd_mem (by omega) (by omega)
    have : rd l i ≠ n := fun e => hin (e ▸ hm)
    omega
  rcases fidx_spec (fun i => rd l i > n) l.length 0 with ⟨h1, h2⟩ | ⟨j, h1, h2, h3, h4, h5⟩
  · rw [h1] at key
    repeat' (first|(with_reducible refine Wp.itetB ?c_ ?_;(case c_=>first|exact Int.natCast_nonneg _|omega|assumption))|(with_reducible refine Wp.itefB ?c_ ?_;(case c_=>first|exact Int.natCast_nonneg _|omega|assumption))|(with_reducible refine Wp.itet ?c_ ?_;(case c_=>first|exact Int.natCast_nonneg _|omega|assumption))|(with_reducible refine Wp.itef ?c_ ?_;(case c_=>first|exact Int.natCast_nonneg _|omega|assumption))|(with_reducible refine Wp.bindE (cl) ?_)|(with_reducible refine Wp.bindE (impl_NumIn_ev l n (by omega)) ?_)|(with_reducible refine Wp.bindE (key) ?_)|(with_reducible refine Wp.bindE (impl_Insert_ev l l.length (Nat.le_refl _) n h) ?_)|(simp only [decide_eq_true_eq])|(with_reducible refine Wp.ret ?_)|(with_reducible refine Wp.itet ?c_ ?_;(case c_=>simp only [List.length_append, List.length_cons, List.length_nil, List.length_take, List.length_drop, List.length_replicate]; omega))|(with_reducible refine Wp.iteB (fun hc => ?_) (fun hc => ?_))|(with_reducible refine Wp.ite (fun hc => ?_) (fun hc => ?_)))
    · rw [numAdd, if_pos (B_iff.2 hc)]
    · rw [numAdd, if_neg (fun h => hc (B_iff.1 h)), insN_idx n l hc l.length (Nat.le_refl _) (fun i hi => hnin hc i hi (h2 i (by omega) (by omega))) (fun h => absurd h (Nat.lt_irrefl _))]
  · rw [h3] at key
    have hj : j ≤ l.length := by omega
    repeat' (first|(with_reducible refine Wp.itetB ?c_ ?_;(case c_=>first|exact Int.natCast_nonneg _|omega|assumption))|(with_reducible refine Wp.itefB ?c_ ?_;(case c_=>first|exact Int.natCast_nonneg _|omega|assumption))|(with_reducible refine Wp.itet ?c_ ?_;(case c_=>first|exact Int.natCast_nonneg _|omega|assumption))|(with_reducible refine Wp.itef ?c_ ?_;(case c_=>first|exact Int.natCast_nonneg _|omega|assumption))|(with_reducible refine Wp.bindE (cl) ?_)|(with_reducible refine Wp.bindE (impl_NumIn_ev l n (by omega)) ?_)|(with_reducible refine Wp.bindE (key) ?_)|(with_reducible refine Wp.bindE (impl_Insert_ev l j hj n h) ?_)|(simp only [decide_eq_true_eq])|(with_reducible refine Wp.ret ?_)|(with_reducible refine Wp.itet ?c_ ?_;(case c_=>simp only [List.length_append, List.length_cons, List.length_nil, List.length_take, List.length_drop, List.length_replicate]; omega))|(with_reducible refine Wp.iteB (fun hc => ?_) (fun hc => ?_))|(with_reducible refine Wp.ite (fun hc => ?_) (fun hc => ?_)))
    · rw [numAdd, if_pos (B_iff.2 hc)]
    · rw [numAdd, if_neg (fun h => hc (B_iff.1 h)), insN_idx n l hc j (by omega) (fun i hi => hnin hc i (by omega) (h5 i (by omega) hi)) (fun _ => h4)]
mutual
noncomputable def varsT : I_Term → List Int → List Int
  | ⟨f, v, l⟩, acc => varsL l (if f = -1 then numAdd acc v else acc)
noncomputable def varsL : List I_Term → List Int → List Int
  | [], acc => acc
  | t :: l, acc => varsL l (varsT t acc)
end
theorem varsT_eq (t : I_Term) (acc : List Int) : varsT t acc = varsL t.f2 (if t.f0 = -1 then numAdd acc t.f1 else acc) := by cases t; rw [varsT]
theorem varsL_app (p q : List I_Term) : ∀ acc, varsL (p ++ q) acc = varsL q (varsL p acc) := by
  induction p with
  | nil => intro acc; rw [varsL]; rfl
  | cons a p ih => intro acc; rw [List.cons_append, varsL, varsL, ih]
theorem varsL_len {l : List I_Term} (h : ∀ x ∈ l, ∀ acc, (varsT x acc).length ≤ acc.length + sz x) : ∀ acc, (varsL l acc).length ≤ acc.length + szs l := by
  induction l with
  | nil => intro acc; rw [varsL, szs]; omega
  | cons a l ih =>
    intro acc
    have h1 := ih (fun x hx => h x (by simp [hx])) (varsT a acc)
    have h2 := h a (by simp) acc
    rw [varsL, szs]; omega
theorem varsT_len (t : I_Term) : ∀ acc, (varsT t acc).length ≤ acc.length + sz t := by
  induction t using tInd with
  | h t ih =>
    intro acc
    have h := varsL_len ih (if t.f0 = -1 then numAdd acc t.f1 else acc)
    have h2 := numAdd_len acc t.f1
    rw [varsT_eq, sz_eq]
    split at h <;> split <;> simp_all <;> omega
theorem spec_l3Vars_ev (t : I_Term) : ∀ acc : List Int, acc.length + sz t ≤ 1000000000 → Ev (fun k => spec_l3Vars.f k t.f0 t.f1 t.f2 acc) (varsT t acc) := by
  induction t using tInd with
  | h t ih =>
  intro acc h
  have hlen := sz_kids t
  have hsz := sz_eq t
  have loop : ∀ a0 : List Int, a0.length + szs t.f2 ≤ 1000000000 → Wp (fun k => spec_l3Vars.l0 k a0 0 t.f0 t.f1 t.f2) (fun r => r = varsL t.f2 a0) := by
    intro a0 h0
    refine Wp.each1 t.f2 zI_Term (by omega) (fun k i a => spec_l3Vars.l0 k a i t.f0 t.f1 t.f2) (fun p a => a = varsL p a0) ?_ ?_ a0 (by rw [varsL])
    · intro p x q a e m hn hr hw hI jh
      refine Wp.step (fun k => by rw [spec_l3Vars.l0]) ?_
      have r1 : rd_I_Term t.f2 (p.length : Int) = x := hr
      have h1 := varsL_len (l := p) (fun x _ => varsT_len x) a0
      have h2 : szs t.f2 = szs p + (sz x + szs q) := by rw [e, szs_append, szs]
      simp only [hw.e, r1]
      repeat' (first|(with_reducible refine Wp.itetB ?c_ ?_;(case c_=>first|exact Int.natCast_nonneg _|omega|assumption))|(with_reducible refine Wp.itefB ?c_ ?_;(case c_=>first|exact Int.natCast_nonneg _|omega|assumption))|(with_reducible refine Wp.itet ?c_ ?_;(case c_=>first|exact Int.natCast_nonneg _|omega|assumption))|(with_reducible refine Wp.itef ?c_ ?_;(case c_=>first|exact Int.natCast_nonneg _|omega|assumption))|(with_reducible refine Wp.bindE (ih x m a (by rw [hI]; omega)) ?_)|(exact jh _ (by rw [varsL_app, ← hI, varsL, varsL]))|(simp only [decide_eq_true_eq])|(with_reducible refine Wp.ret ?_)|(with_reducible refine Wp.itet ?c_ ?_;(case c_=>simp only [List.length_append, List.length_cons, List.length_nil, List.length_take, List.length_drop, List.length_replicate]; omega))|(with_reducible refine Wp.iteB (fun hc => ?_) (fun hc => ?_))|(with_reducible refine Wp.ite (fun hc => ?_) (fun hc => ?_)))
    · intro a hI
      refine Wp.step (fun k => by rw [spec_l3Vars.l0]) ?_
      repeat' (first|(with_reducible refine Wp.itetB ?c_ ?_;(case c_=>first|exact Int.natCast_nonneg _|omega|assumption))|(with_reducible refine Wp.itefB ?c_ ?_;(case c_=>first|exact Int.natCast_nonneg _|omega|assumption))|(with_reducible refine Wp.itet ?c_ ?_;(case c_=>first|exact Int.natCast_nonneg _|omega|assumption))|(with_reducible refine Wp.itef ?c_ ?_;(case c_=>first|exact Int.natCast_nonneg _|omega|assumption))|(simp only [decide_eq_true_eq])|(with_reducible refine Wp.ret ?_)|(with_reducible refine Wp.itet ?c_ ?_;(case c_=>simp only [List.length_append, List.length_cons, List.length_nil, List.length_take, List.length_drop, List.length_replicate]; omega))|(with_reducible refine Wp.iteB (fun hc => ?_) (fun hc => ?_))|(with_reducible refine Wp.ite (fun hc => ?_) (fun hc => ?_)))
      exact hI
  refine Wp.ev ?_
  refine Wp.step (fun k => by rw [spec_l3Vars.f]) ?_
  have hna := numAdd_len acc t.f1
  rw [varsT_eq]
  repeat' (first|(with_reducible refine Wp.itetB ?c_ ?_;(case c_=>first|exact Int.natCast_nonneg _|omega|assumption))|(with_reducible refine Wp.itefB ?c_ ?_;(case c_=>first|exact Int.natCast_nonneg _|omega|assumption))|(with_reducible refine Wp.itet ?c_ ?_;(case c_=>first|exact Int.natCast_nonneg _|omega|assumption))|(with_reducible refine Wp.itef ?c_ ?_;(case c_=>first|exact Int.natCast_nonneg _|omega|assumption))|(with_reducible refine Wp.bindE (spec_NumAdd_ev acc t.f1 (by omega)) ?_)|(simp only [decide_eq_true_eq])|(with_reducible refine Wp.ret ?_)|(with_reducible refine Wp.itet ?c_ ?_;(case c_=>simp only [List.length_append, List.length_cons, List.length_nil, List.length_take, List.length_drop, List.length_replicate]; omega))|(with_reducible refine Wp.iteB (fun hc => ?_) (fun hc => ?_))|(with_reducible refine Wp.ite (fun hc => ?_) (fun hc => ?_)))
  · rw [if_pos (by assumption)]; exact loop _ (by omega)
  · rw [if_neg (by assumption)]; exact loop _ (by omega)
noncomputable def varsC (c : List I_Lit) : List Int := c.foldl (fun a l => varsT l.f2 (varsT l.f1 a)) []
theorem varsC_len (c : List I_Lit) : (varsC c).length ≤ szC c := by
  have : ∀ (c : List I_Lit) (a : List Int), (c.foldl (fun a l => varsT l.f2 (varsT l.f1 a)) a).length ≤ a.length + szC c := by
    intro c
    induction c with
    | nil => intro a; simp [szC]
    | cons l c ih =>
      intro a
      have h1 := ih (varsT l.f2 (varsT l.f1 a))
      have h2 := varsT_len l.f2 (varsT l.f1 a)
      have h3 := varsT_len l.f1 a
      rw [List.foldl_cons, szC]; unfold szL; omega
  have := this c []
  simpa [varsC] using this
theorem varsC_snoc (p : List I_Lit) (x : I_Lit) : varsC (p ++ [x]) = varsT x.f2 (varsT x.f1 (varsC p)) := by unfold varsC; rw [List.foldl_append]; rfl
theorem spec_ClauseVars_ev (c : List I_Lit) (h : szC c ≤ 1000000000) : Ev (fun k => spec_ClauseVars.f k c) (varsC c) := by
  have hl := szC_len c
  unfold spec_ClauseVars.f
  refine Wp.ev (Wp.each1 c zI_Lit (by omega) (fun k i a => spec_ClauseVars.l0 k a i c) (fun p a => a = varsC p) ?_ ?_ [] rfl)
  · intro p x q a e m hn hr hw hI ih
    refine Wp.step (fun k => by rw [spec_ClauseVars.l0]) ?_
    have r1 : rd_I_Lit c (p.length : Int) = x := hr
    have h1 := varsC_len p
    have h2 : szC c = szC p + (szL x + szC q) := by rw [e, szC_app, szC]
    have h3 : szL x = sz x.f1 + sz x.f2 := rfl
    have h4 := varsT_len x.f1 a
    simp only [hw.e, r1]
    repeat' (first|(with_reducible refine Wp.itetB ?c_ ?_;(case c_=>first|exact Int.natCast_nonneg _|omega|assumption))|(with_reducible refine Wp.itefB ?c_ ?_;(case c_=>first|exact Int.natCast_nonneg _|omega|assumption))|(with_reducible refine Wp.itet ?c_ ?_;(case c_=>first|exact Int.natCast_nonneg _|omega|assumption))|(with_reducible refine Wp.itef ?c_ ?_;(case c_=>first|exact Int.natCast_nonneg _|omega|assumption))|(with_reducible refine Wp.bindE (spec_l3Vars_ev x.f1 a (by rw [hI]; omega)) ?_)|(with_reducible refine Wp.bindE (spec_l3Vars_ev x.f2 _ (by rw [hI] at h4 ⊢; omega)) ?_)|(exact ih _ (by rw [varsC_snoc, hI]))|(simp only [decide_eq_true_eq])|(with_reducible refine Wp.ret ?_)|(with_reducible refine Wp.itet ?c_ ?_;(case c_=>simp only [List.length_append, List.length_cons, List.length_nil, List.length_take, List.length_drop, List.length_replicate]; omega))|(with_reducible refine Wp.iteB (fun hc => ?_) (fun hc => ?_))|(with_reducible refine Wp.ite (fun hc => ?_) (fun hc => ?_)))
  · intro a hI
    refine Wp.step (fun k => by rw [spec_ClauseVars.l0]) ?_
    repeat' (first|(with_reducible refine Wp.itetB ?c_ ?_;(case c_=>first|exact Int.natCast_nonneg _|omega|assumption))|(with_reducible refine Wp.itefB ?c_ ?_;(case c_=>first|exact Int.natCast_nonneg _|omega|assumption))|(with_reducible refine Wp.itet ?c_ ?_;(case c_=>first|exact Int.natCast_nonneg _|omega|assumption))|(with_reducible refine Wp.itef ?c_ ?_;(case c_=>first|exact Int.natCast_nonneg _|omega|assumption))|(simp only [decide_eq_true_eq])|(with_reducible refine Wp.ret ?_)|(with_reducible refine Wp.itet ?c_ ?_;(case c_=>simp only [List.length_append, List.length_cons, List.length_nil, List.length_take, List.length_drop, List.length_replicate]; omega))|(with_reducible refine Wp.iteB (fun hc => ?_) (fun hc => ?_))|(with_reducible refine Wp.ite (fun hc => ?_) (fun hc => ?_)))
    exact hI
/-! lists of numbers in order, each once -/
def Inc (l : List Int) : Prop := l.Pairwise (· < ·)
theorem mem_insN {n x : Int} {l : List Int} : x ∈ insN n l ↔ x = n ∨ x ∈ l := by
  induction l with
  | nil => simp [insN]
  | cons a l ih =>
    rw [insN]
    split
    · rw [List.mem_cons, ih, List.mem_cons]; grind
    · rw [List.mem_cons]
theorem mem_numAdd {n x : Int} {l : List Int} : x ∈ numAdd l n ↔ x = n ∨ x ∈ l := by
  unfold numAdd
  by_cases h : n ∈ l
  · rw [if_pos (B_iff.2 h)]
    exact ⟨.inr, fun k => k.elim (fun e => e ▸ h) id⟩
  · rw [if_neg (fun k => h (B_iff.1 k))]; exact mem_insN
theorem inc_insN {n : Int} {l : List Int} (h : Inc l) (hn : n ∉ l) : Inc (insN n l) := by
  induction l with
  | nil => exact List.pairwise_singleton _ _
  | cons a l ih =>
    rw [insN]
    have h1 := List.pairwise_cons.1 h
    have hne : a ≠ n := fun e => hn (by simp [e])
    split
    · refine List.pairwise_cons.2 ⟨fun x hx => ?_, ih h1.2 (fun e => hn (by simp [e]))⟩
      rcases mem_insN.1 hx with rfl | hx
      · assumption
      · exact h1.1 x hx
    · refine List.pairwise_cons.2 ⟨fun x hx => ?_, h⟩
      rcases List.mem_cons.1 hx with rfl | hx
      · omega
      · have := h1.1 x hx; omega
theorem inc_numAdd {n : Int} {l : List Int} (h : Inc l) : Inc (numAdd l n) := by
  unfold numAdd
  by_cases hn : n ∈ l
  · rw [if_pos (B_iff.2 hn)]; exact h
  · rw [if_neg (fun k => hn (B_iff.1 k))]; exact inc_insN h hn
theorem inc_eq : ∀ {a b : List Int}, Inc a → Inc b → (∀ x, x ∈ a ↔ x ∈ b) → a = b := by
  intro a
  induction a with
  | nil =>
    intro b _ _ h
    cases b with
    | nil => rfl
    | cons y b => have := (h y).2 (by simp); cases this
  | cons x a ih =>
    intro b ha hb h
    cases b with
    | nil => have := (h x).1 (by simp); cases this
    | cons y b =>
      have ha' := List.pairwise_cons.1 ha
      have hb' := List.pairwise_cons.1 hb
      have hxy : x = y := by
        rcases List.mem_cons.1 ((h x).1 (by simp)) with e | e
        · exact e
        · rcases List.mem_cons.1 ((h y).2 (by simp)) with e' | e'
          · exact e'.symm
          · have := hb'.1 x e; have := ha'.1 y e'; omega
      subst hxy
      rw [ih ha'.2 hb'.2 (fun z => ?_)]
      constructor
      · intro hz
        rcases List.mem_cons.1 ((h z).1 (by simp [hz])) with e | e
        · have := ha'.1 z hz; omega
        · exact e
      · intro hz
        rcases List.mem_cons.1 ((h z).2 (by simp [hz])) with e | e
        · have := hb'.1 z hz; omega
        · exact e
theorem foldAdd_inc (l : List Int) : ∀ {a : List Int}, Inc a → Inc (l.foldl numAdd a) := by
  induction l with
  | nil => intro a h; exact h
  | cons x l ih => intro a h; exact ih (inc_numAdd h)
theorem foldAdd_mem (l : List Int) : ∀ {a : List Int} {x : Int}, x ∈ l.foldl numAdd a ↔ x ∈ a ∨ x ∈ l := by
  induction l with
  | nil => intro a x; simp
  | cons y l ih =>
    intro a x
    rw [List.foldl_cons, ih, mem_numAdd, List.mem_cons]; grind
mutual
def occT : I_Term → List Int
  | ⟨f, v, l⟩ => (if f = -1 then [v] else []) ++ occL l
def occL : List I_Term → List Int
  | [] => []
  | t :: l => occT t ++ occL l
end
theorem occT_eq (t : I_Term) : occT t = (if t.f0 = -1 then [t.f1] else []) ++ occL t.f2 := by cases t; rw [occT]
theorem varsT_occ (t : I_Term) : ∀ acc, varsT t acc = (occT t).foldl numAdd acc := by
  induction t using tInd with
  | h t ih =>
    intro acc
    have : ∀ l : List I_Term, (∀ x ∈ l, ∀ acc, varsT x acc = (occT x).foldl numAdd acc) → ∀ acc, varsL l acc = (occL l).foldl numAdd acc := by
      intro l
      induction l with
      | nil => intro _ acc; rw [varsL, occL]; rfl
      | cons a l ihl => intro h acc; rw [varsL, occL, List.foldl_append, h a (by simp), ihl (fun x hx => h x (by simp [hx]))]
    rw [varsT_eq, occT_eq, List.foldl_append, this _ ih]
    split <;> rfl
theorem varsT_inc (t : I_Term) {acc : List Int} (h : Inc acc) : Inc (varsT t acc) := by rw [varsT_occ]; exact foldAdd_inc _ h
theorem varsT_mem (t : I_Term) {acc : List Int} {x : Int} : x ∈ varsT t acc ↔ x ∈ acc ∨ x ∈ occT t := by rw [varsT_occ]; exact foldAdd_mem _
theorem varsT_acc (t : I_Term) {acc : List Int} (h : Inc acc) : (varsT t []).foldl numAdd acc = varsT t acc :=
  inc_eq (foldAdd_inc _ h) (varsT_inc t h) fun x => by rw [foldAdd_mem, varsT_mem, varsT_mem]; simp
theorem varsC_inc (c : List I_Lit) : Inc (varsC c) := by
  have : ∀ (c : List I_Lit) (a : List Int), Inc a → Inc (c.foldl (fun a l => varsT l.f2 (varsT l.f1 a)) a) := by
    intro c
    induction c with
    | nil => intro a h; exact h
    | cons l c ih => intro a h; exact ih _ (varsT_inc _ (varsT_inc _ h))
  exact this c [] List.Pairwise.nil
theorem impl_isVar_ev (a b : Int) (l : List I_Term) : Ev (fun _ => impl_isVar.f a b l) (B (a = -1)) := by
  unfold impl_isVar.f
  exact Ev.ret.val dec_B
theorem impl_VarsOf_ev (t : I_Term) (h : sz t ≤ 1000000000) : Ev (fun k => impl_VarsOf.f k t.f0 t.f1 t.f2) (varsT t []) := by
  have key : ∀ t : I_Term, ∀ acc : List Int, acc.length + sz t ≤ 1000000000 → Ev (fun k => impl_each__impl_VarsOf_1.f k t.f0 t.f1 t.f2 acc) (varsT t acc) := by
    intro t
    induction t using tInd with
    | h t ih =>
    intro acc h
    have hlen := sz_kids t
    have hsz := sz_eq t
    have hna := numAdd_len acc t.f1
    have c1 : Ev (fun k => impl_VarsOf_1_v2.f k t.f0 t.f1 t.f2 acc) (if t.f0 = -1 then numAdd acc t.f1 else acc) := by
      refine Wp.ev ?_
      unfold impl_VarsOf_1_v2.f
      repeat' (first|(with_reducible refine Wp.itetB ?c_ ?_;(case c_=>first|exact Int.natCast_nonneg _|omega|assumption))|(with_reducible refine Wp.itefB ?c_ ?_;(case c_=>first|exact Int.natCast_nonneg _|omega|assumption))|(with_reducible refine Wp.itet ?c_ ?_;(case c_=>first|exact Int.natCast_nonneg _|omega|assumption))|(with_reducible refine Wp.itef ?c_ ?_;(case c_=>first|exact Int.natCast_nonneg _|omega|assumption))|(with_reducible refine Wp.bindE (impl_isVar_ev _ _ _) ?_)|(with_reducible refine Wp.bindE (impl_NumAdd_ev acc t.f1 (by omega)) ?_)|(simp only [decide_eq_true_eq])|(with_reducible refine Wp.ret ?_)|(with_reducible refine Wp.itet ?c_ ?_;(case c_=>simp only [List.length_append, List.length_cons, List.length_nil, List.length_take, List.length_drop, List.length_replicate]; omega))|(with_reducible refine Wp.iteB (fun hc => ?_) (fun hc => ?_))|(with_reducible refine Wp.ite (fun hc => ?_) (fun hc => ?_)))
      · rw [if_pos (by assumption)]
      · rw [if_neg (by assumption)]
    refine Wp.ev ?_
    refine Wp.step (fun k => by rw [impl_each__impl_VarsOf_1.f]) ?_
    rw [varsT_eq]
    refine Wp.bindE c1 ?_
    have ha0 : (if t.f0 = -1 then numAdd acc t.f1 else acc).length ≤ acc.length + 1 := by split <;> omega
    generalize (if t.f0 = -1 then numAdd acc t.f1 else acc) = a0 at ha0 ⊢
    refine Wp.each1 t.f2 zI_Term (by omega) (fun k i a => impl_each__impl_VarsOf_1.l0 k t.f2 t.f2.length i a) (fun p a => a = varsL p a0) ?_ ?_ a0 (by rw [varsL])
    · intro p x q a e m hn hr hw hI jh
      refine Wp.step (fun k => by rw [impl_each__impl_VarsOf_1.l0]) ?_
      have r1 : rd_I_Term t.f2 (p.length : Int) = x := hr
      have h1 := varsL_len (l := p) (fun x _ => varsT_len x) a0
      have h2 : szs t.f2 = szs p + (sz x + szs q) := by rw [e, szs_append, szs]
      simp only [hw.e, r1]
      repeat' (first|(with_reducible refine Wp.itetB ?c_ ?_;(case c_=>first|exact Int.natCast_nonneg _|omega|assumption))|(with_reducible refine Wp.itefB ?c_ ?_;(case c_=>first|exact Int.natCast_nonneg _|omega|assumption))|(with_reducible refine Wp.itet ?c_ ?_;(case c_=>first|exact Int.natCast_nonneg _|omega|assumption))|(with_reducible refine Wp.itef ?c_ ?_;(case c_=>first|exact Int.natCast_nonneg _|omega|assumption))|(with_reducible refine Wp.bindE (ih x m a (by rw [hI]; omega)) ?_)|(exact jh _ (by rw [varsL_app, ← hI, varsL, varsL]))|(simp only [decide_eq_true_eq])|(with_reducible refine Wp.ret ?_)|(with_reducible refine Wp.itet ?c_ ?_;(case c_=>simp only [List.length_append, List.length_cons, List.length_nil, List.length_take, List.length_drop, List.length_replicate]; omega))|(with_reducible refine Wp.iteB (fun hc => ?_) (fun hc => ?_))|(with_reducible refine Wp.ite (fun hc => ?_) (fun hc => ?_)))
    · intro a hI
      refine Wp.step (fun k => by rw [impl_each__impl_VarsOf_1.l0]) ?_
      repeat' (first|(with_reducible refine Wp.itetB ?c_ ?_;(case c_=>first|exact Int.natCast_nonneg _|omega|assumption))|(with_reducible refine Wp.itefB ?c_ ?_;(case c_=>first|exact Int.natCast_nonneg _|omega|assumption))|(with_reducible refine Wp.itet ?c_ ?_;(case c_=>first|exact Int.natCast_nonneg _|omega|assumption))|(with_reducible refine Wp.itef ?c_ ?_;(case c_=>first|exact Int.natCast_nonneg _|omega|assumption))|(simp only [decide_eq_true_eq])|(with_reducible refine Wp.ret ?_)|(with_reducible refine Wp.itet ?c_ ?_;(case c_=>simp only [List.length_append, List.length_cons, List.length_nil, List.length_take, List.length_drop, List.length_replicate]; omega))|(with_reducible refine Wp.iteB (fun hc => ?_) (fun hc => ?_))|(with_reducible refine Wp.ite (fun hc => ?_) (fun hc => ?_)))
      exact hI
  unfold impl_VarsOf.f
  exact (key t [] (by simpa using h)).bind Ev.ret
theorem impl_Grow_ev (n : Int) (h0 : 0 ≤ n) (h : n ≤ 1000000000) : Ev (fun _ => slices_Grow_int_int_v2.f n) [] := by
  refine Wp.ev ?_
  unfold slices_Grow_int_int_v2.f
  have e1 : wrap64 0 = 0 := by decide +kernel
  have e2 : (0 : Int) - 0 = 0 := rfl
  simp only [e2, e1, Int.sub_zero, wrap_id (x := n) (by omega) (by omega), List.length_replicate, toNatCast]
  repeat' (first|(with_reducible refine Wp.itetB ?c_ ?_;(case c_=>first|exact Int.natCast_nonneg _|omega|assumption))|(with_reducible refine Wp.itefB ?c_ ?_;(case c_=>first|exact Int.natCast_nonneg _|omega|assumption))|(with_reducible refine Wp.itet ?c_ ?_;(case c_=>first|exact Int.natCast_nonneg _|omega|assumption))|(with_reducible refine Wp.itef ?c_ ?_;(case c_=>first|exact Int.natCast_nonneg _|omega|assumption))|(simp only [decide_eq_true_eq])|(with_reducible refine Wp.ret ?_)|(with_reducible refine Wp.itet ?c_ ?_;(case c_=>simp only [List.length_append, List.length_cons, List.length_nil, List.length_take, List.length_drop, List.length_replicate]; omega))|(with_reducible refine Wp.iteB (fun hc => ?_) (fun hc => ?_))|(with_reducible refine Wp.ite (fun hc => ?_) (fun hc => ?_)))
  rfl
theorem impl_Concat_ev (a b : List Int) (h : a.length + b.length ≤ 1000000000) : Ev (fun k => slices_Concat_int_int.f k [a, b]) (a ++ b) := by
  refine Wp.ev ?_
  unfold slices_Concat_int_int.f
  have e0 : rd_Ls_i64 [a, b] 0 = a := rfl
  have e1 : rd_Ls_i64 [a, b] 1 = b := rfl
  have w1 : wrap64 (0 + 1) = 1 := by decide +kernel
  have w2 : wrap64 (1 + 1) = 2 := by decide +kernel
  have l2 : (([a, b] : List (List Int)).length : Int) = 2 := rfl
  refine Wp.step (fun k => by rw [slices_Concat_int_int.l0]) ?_
  rw [l2]
  simp only [e0, w1, wrap_id (x := 0 + (a.length : Int)) (by omega) (by omega)]
  repeat' (first|(with_reducible refine Wp.itetB ?c_ ?_;(case c_=>first|exact Int.natCast_nonneg _|omega|assumption))|(with_reducible refine Wp.itefB ?c_ ?_;(case c_=>first|exact Int.natCast_nonneg _|omega|assumption))|(with_reducible refine Wp.itet ?c_ ?_;(case c_=>first|exact Int.natCast_nonneg _|omega|assumption))|(with_reducible refine Wp.itef ?c_ ?_;(case c_=>first|exact Int.natCast_nonneg _|omega|assumption))|(simp only [decide_eq_true_eq])|(with_reducible refine Wp.ret ?_)|(with_reducible refine Wp.itet ?c_ ?_;(case c_=>simp only [List.length_append, List.length_cons, List.length_nil, List.length_take, List.length_drop, List.length_replicate]; omega))|(with_reducible refine Wp.iteB (fun hc => ?_) (fun hc => ?_))|(with_reducible refine Wp.ite (fun hc => ?_) (fun hc => ?_)))
  refine Wp.step (fun k => by rw [slices_Concat_int_int.l0]) ?_
  simp only [e1, w2, wrap_id (x := 0 + (a.length : Int) + (b.length : Int)) (by omega) (by omega)]
  repeat' (first|(with_reducible refine Wp.itetB ?c_ ?_;(case c_=>first|exact Int.natCast_nonneg _|omega|assumption))|(with_reducible refine Wp.itefB ?c_ ?_;(case c_=>first|exact Int.natCast_nonneg _|omega|assumption))|(with_reducible refine Wp.itet ?c_ ?_;(case c_=>first|exact Int.natCast_nonneg _|omega|assumption))|(with_reducible refine Wp.itef ?c_ ?_;(case c_=>first|exact Int.natCast_nonneg _|omega|assumption))|(simp only [decide_eq_true_eq])|(with_reducible refine Wp.ret ?_)|(with_reducible refine Wp.itet ?c_ ?_;(case c_=>simp only [List.length_append, List.length_cons, List.length_nil, List.length_take, List.length_drop, List.length_replicate]; omega))|(with_reducible refine Wp.iteB (fun hc => ?_) (fun hc => ?_))|(with_reducible refine Wp.ite (fun hc => ?_) (fun hc => ?_)))
  refine Wp.step (fun k => by rw [slices_Concat_int_int.l0]) ?_
  repeat' (first|(with_reducible refine Wp.itetB ?c_ ?_;(case c_=>first|exact Int.natCast_nonneg _|omega|assumption))|(with_reducible refine Wp.itefB ?c_ ?_;(case c_=>first|exact Int.natCast_nonneg _|omega|assumption))|(with_reducible refine Wp.itet ?c_ ?_;(case c_=>first|exact Int.natCast_nonneg _|omega|assumption))|(with_reducible refine Wp.itef ?c_ ?_;(case c_=>first|exact Int.natCast_nonneg _|omega|assumption))|(with_reducible refine Wp.bindE (impl_Grow_ev _ (by omega) (by omega)) ?_)|(simp only [decide_eq_true_eq])|(with_reducible refine Wp.ret ?_)|(with_reducible refine Wp.itet ?c_ ?_;(case c_=>simp only [List.length_append, List.length_cons, List.length_nil, List.length_take, List.length_drop, List.length_replicate]; omega))|(with_reducible refine Wp.iteB (fun hc => ?_) (fun hc => ?_))|(with_reducible refine Wp.ite (fun hc => ?_) (fun hc => ?_)))
  rw [l2]
  refine Wp.step (fun k => by rw [slices_Concat_int_int.l1]) ?_
  simp only [e0, w1, List.nil_append, List.length_nil]
  repeat' (first|(with_reducible refine Wp.itetB ?c_ ?_;(case c_=>first|exact Int.natCast_nonneg _|omega|assumption))|(with_reducible refine Wp.itefB ?c_ ?_;(case c_=>first|exact Int.natCast_nonneg _|omega|assumption))|(with_reducible refine Wp.itet ?c_ ?_;(case c_=>first|exact Int.natCast_nonneg _|omega|assumption))|(with_reducible refine Wp.itef ?c_ ?_;(case c_=>first|exact Int.natCast_nonneg _|omega|assumption))|(refine Wp.itet (by omega) ?_)|(simp only [decide_eq_true_eq])|(with_reducible refine Wp.ret ?_)|(with_reducible refine Wp.itet ?c_ ?_;(case c_=>simp only [List.length_append, List.length_cons, List.length_nil, List.length_take, List.length_drop, List.length_replicate]; omega))|(with_reducible refine Wp.iteB (fun hc => ?_) (fun hc => ?_))|(with_reducible refine Wp.ite (fun hc => ?_) (fun hc => ?_)))
  refine Wp.step (fun k => by rw [slices_Concat_int_int.l1]) ?_
  simp only [e1, w2]
  repeat' (first|(with_reducible refine Wp.itetB ?c_ ?_;(case c_=>first|exact Int.natCast_nonneg _|omega|assumption))|(with_reducible refine Wp.itefB ?c_ ?_;(case c_=>first|exact Int.natCast_nonneg _|omega|assumption))|(with_reducible refine Wp.itet ?c_ ?_;(case c_=>first|exact Int.natCast_nonneg _|omega|assumption))|(with_reducible refine Wp.itef ?c_ ?_;(case c_=>first|exact Int.natCast_nonneg _|omega|assumption))|(refine Wp.itet (by omega) ?_)|(simp only [decide_eq_true_eq])|(with_reducible refine Wp.ret ?_)|(with_reducible refine Wp.itet ?c_ ?_;(case c_=>simp only [List.length_append, List.length_cons, List.length_nil, List.length_take, List.length_drop, List.length_replicate]; omega))|(with_reducible refine Wp.iteB (fun hc => ?_) (fun hc => ?_))|(with_reducible refine Wp.ite (fun hc => ?_) (fun hc => ?_)))
  refine Wp.step (fun k => by rw [slices_Concat_int_int.l1]) ?_
  repeat' (first|(with_reducible refine Wp.itetB ?c_ ?_;(case c_=>first|exact Int.natCast_nonneg _|omega|assumption))|(with_reducible refine Wp.itefB ?c_ ?_;(case c_=>first|exact Int.natCast_nonneg _|omega|assumption))|(with_reducible refine Wp.itet ?c_ ?_;(case c_=>first|exact Int.natCast_nonneg _|omega|assumption))|(with_reducible refine Wp.itef ?c_ ?_;(case c_=>first|exact Int.natCast_nonneg _|omega|assumption))|(simp only [decide_eq_true_eq])|(with_reducible refine Wp.ret ?_)|(with_reducible refine Wp.itet ?c_ ?_;(case c_=>simp only [List.length_append, List.length_cons, List.length_nil, List.length_take, List.length_drop, List.length_replicate]; omega))|(with_reducible refine Wp.iteB (fun hc => ?_) (fun hc => ?_))|(with_reducible refine Wp.ite (fun hc => ?_) (fun hc => ?_)))
theorem impl_ClauseVars_ev (c : List I_Lit) (h : szC c ≤ 100000000) : Ev (fun k => impl_ClauseVars.f k c) (varsC c) := by
  have hl := szC_len c
  unfold impl_ClauseVars.f
  refine Wp.ev (Wp.each1 c zI_Lit (by omega) (fun k i a => impl_ClauseVars.l0 k a c c.length i) (fun p a => a = varsC p) ?_ ?_ [] rfl)
  · intro p x q a e m hn hr hw hI ih
    refine Wp.step (fun k => by rw [impl_ClauseVars.l0]) ?_
    have r1 : rd_I_Lit c (p.length : Int) = x := hr
    have h1 := varsC_len p
    have h2 : szC c = szC p + (szL x + szC q) := by rw [e, szC_app, szC]
    have h3 : szL x = sz x.f1 + sz x.f2 := rfl
    have h4 := varsT_len x.f1 []
    have h5 := varsT_len x.f2 []
    have h6 := varsT_len x.f1 (varsC p)
    have h7 := varsT_len x.f2 (varsT x.f1 (varsC p))
    simp only [List.length_nil] at h4 h5
    simp only [hw.e, r1]
    repeat' (first|(with_reducible refine Wp.itetB ?c_ ?_;(case c_=>first|exact Int.natCast_nonneg _|omega|assumption))|(with_reducible refine Wp.itefB ?c_ ?_;(case c_=>first|exact Int.natCast_nonneg _|omega|assumption))|(with_reducible refine Wp.itet ?c_ ?_;(case c_=>first|exact Int.natCast_nonneg _|omega|assumption))|(with_reducible refine Wp.itef ?c_ ?_;(case c_=>first|exact Int.natCast_nonneg _|omega|assumption))|(with_reducible refine Wp.bindE (impl_VarsOf_ev x.f1 (by omega)) ?_)|(with_reducible refine Wp.bindE (impl_VarsOf_ev x.f2 (by omega)) ?_)|(with_reducible refine Wp.bindE (impl_Concat_ev _ _ (by omega)) ?_)|(simp only [decide_eq_true_eq])|(with_reducible refine Wp.ret ?_)|(with_reducible refine Wp.itet ?c_ ?_;(case c_=>simp only [List.length_append, List.length_cons, List.length_nil, List.length_take, List.length_drop, List.length_replicate]; omega))|(with_reducible refine Wp.iteB (fun hc => ?_) (fun hc => ?_))|(with_reducible refine Wp.ite (fun hc => ?_) (fun hc => ?_)))
    have hlen : (varsT x.f1 [] ++ varsT x.f2 []).length ≤ 1000000 + 200000000 := by rw [List.length_append]; omega
    have hend : (varsT x.f1 [] ++ varsT x.f2 []).foldl numAdd (varsC p) = varsC (p ++ [x]) := by
      rw [List.foldl_append, varsT_acc x.f1 (varsC_inc p), varsT_acc x.f2 (varsT_inc _ (varsC_inc p)), varsC_snoc]
    generalize varsT x.f1 [] ++ varsT x.f2 [] = l at hlen hend ⊢
    have fl : ∀ l a : List Int, (l.foldl numAdd a).length ≤ a.length + l.length := by
      intro l
      induction l with
      | nil => intro a; simp
      | cons y l ihl => intro a; have := ihl (numAdd a y); have := numAdd_len a y; rw [List.foldl_cons, List.length_cons]; omega
    refine Wp.each1 l 0 (by omega) (fun k i a => impl_ClauseVars.l1 k a c c.length p.length l l.length i) (fun p' a => a = p'.foldl numAdd (varsC p)) ?_ ?_ a hI
    · intro p' y q' a' e' m' hn' hr' hw' hI' ih'
      refine Wp.step (fun k => by rw [impl_ClauseVars.l1]) ?_
      have r2 : rd l (p'.length : Int) = y := hr'
      have := fl p' (varsC p)
      simp only [hw'.e, r2]
      repeat' (first|(with_reducible refine Wp.itetB ?c_ ?_;(case c_=>first|exact Int.natCast_nonneg _|omega|assumption))|(with_reducible refine Wp.itefB ?c_ ?_;(case c_=>first|exact Int.natCast_nonneg _|omega|assumption))|(with_reducible refine Wp.itet ?c_ ?_;(case c_=>first|exact Int.natCast_nonneg _|omega|assumption))|(with_reducible refine Wp.itef ?c_ ?_;(case c_=>first|exact Int.natCast_nonneg _|omega|assumption))|(with_reducible refine Wp.bindE (impl_NumAdd_ev a' y (by rw [hI']; omega)) ?_)|(exact ih' _ (by rw [List.foldl_append, ← hI']; rfl))|(simp only [decide_eq_true_eq])|(with_reducible refine Wp.ret ?_)|(with_reducible refine Wp.itet ?c_ ?_;(case c_=>simp only [List.length_append, List.length_cons, List.length_nil, List.length_take, List.length_drop, List.length_replicate]; omega))|(with_reducible refine Wp.iteB (fun hc => ?_) (fun hc => ?_))|(with_reducible refine Wp.ite (fun hc => ?_) (fun hc => ?_)))
    · intro a' hI'
      refine Wp.step (fun k => by rw [impl_ClauseVars.l1]) ?_
      simp only [hw.e]
      repeat' (first|(with_reducible refine Wp.itetB ?c_ ?_;(case c_=>first|exact Int.natCast_nonneg _|omega|assumption))|(with_reducible refine Wp.itefB ?c_ ?_;(case c_=>first|exact Int.natCast_nonneg _|omega|assumption))|(with_reducible refine Wp.itet ?c_ ?_;(case c_=>first|exact Int.natCast_nonneg _|omega|assumption))|(with_reducible refine Wp.itef ?c_ ?_;(case c_=>first|exact Int.natCast_nonneg _|omega|assumption))|(exact ih _ (by rw [hI', hend]))|(simp only [decide_eq_true_eq])|(with_reducible refine Wp.ret ?_)|(with_reducible refine Wp.itet ?c_ ?_;(case c_=>simp only [List.length_append, List.length_cons, List.length_nil, List.length_take, List.length_drop, List.length_replicate]; omega))|(with_reducible refine Wp.iteB (fun hc => ?_) (fun hc => ?_))|(with_reducible refine Wp.ite (fun hc => ?_) (fun hc => ?_)))
  · intro a hI
    refine Wp.step (fun k => by rw [impl_ClauseVars.l0]) ?_
    repeat' (first|(with_reducible refine Wp.itetB ?c_ ?_;(case c_=>first|exact Int.natCast_nonneg _|omega|assumption))|(with_reducible refine Wp.itefB ?c_ ?_;(case c_=>first|exact Int.natCast_nonneg _|omega|assumption))|(with_reducible refine Wp.itet ?c_ ?_;(case c_=>first|exact Int.natCast_nonneg _|omega|assumption))|(with_reducible refine Wp.itef ?c_ ?_;(case c_=>first|exact Int.natCast_nonneg _|omega|assumption))|(simp only [decide_eq_true_eq])|(with_reducible refine Wp.ret ?_)|(with_reducible refine Wp.itet ?c_ ?_;(case c_=>simp only [List.length_append, List.length_cons, List.length_nil, List.length_take, List.length_drop, List.length_replicate]; omega))|(with_reducible refine Wp.iteB (fun hc => ?_) (fun hc => ?_))|(with_reducible refine Wp.ite (fun hc => ?_) (fun hc => ?_)))
    exact hI
/-! #### which term comes first: the program; terms that are right -/
theorem impl_compare_ev (a : I_Term) : sz a ≤ 1000000000 → ∀ b : I_Term, Ev (fun k => impl_compare.f k a.f0 a.f1 a.f2 b.f0 b.f1 b.f2) (ordI (cmpT a b)) := by
  induction a using tInd with
  | h a ih =>
  intro hs b
  have hlen := sz_kids a
  refine Wp.ev ?_
  refine Wp.step (fun k => by rw [impl_compare.f]) ?_
  rw [cmpT_eq, ord_nat, ord_int, ord_int, ord_int]
  have w0 : wrap64 (0 + 1) = 1 := by decide +kernel
  have w1 : wrap64 (1 + 1) = 2 := by decide +kernel
  have w2 : wrap64 (2 + 1) = 3 := by decide +kernel
  have r0 : ∀ x y z : A2_i64, rd_A2_i64 [x, y, z] 0 = x := fun _ _ _ => rfl
  have r1 : ∀ x y z : A2_i64, rd_A2_i64 [x, y, z] 1 = y := fun _ _ _ => rfl
  have r2 : ∀ x y z : A2_i64, rd_A2_i64 [x, y, z] 2 = z := fun _ _ _ => rfl
  have l3 : ∀ x y z : A2_i64, (([x, y, z] : List A2_i64).length : Int) = 3 := fun _ _ _ => rfl
  rw [l3]
  refine Wp.step (fun k => by rw [impl_compare.l0]) ?_
  simp only [r0, w0, l3]
  repeat' (first|(with_reducible refine Wp.itetB ?c_ ?_;(case c_=>first|exact Int.natCast_nonneg _|omega|assumption))|(with_reducible refine Wp.itefB ?c_ ?_;(case c_=>first|exact Int.natCast_nonneg _|omega|assumption))|(with_reducible refine Wp.itet ?c_ ?_;(case c_=>first|exact Int.natCast_nonneg _|omega|assumption))|(with_reducible refine Wp.itef ?c_ ?_;(case c_=>first|exact Int.natCast_nonneg _|omega|assumption))|(simp only [decide_eq_true_eq])|(with_reducible refine Wp.ret ?_)|(with_reducible refine Wp.itet ?c_ ?_;(case c_=>simp only [List.length_append, List.length_cons, List.length_nil, List.length_take, List.length_drop, List.length_replicate]; omega))|(with_reducible refine Wp.iteB (fun hc => ?_) (fun hc => ?_))|(with_reducible refine Wp.ite (fun hc => ?_) (fun hc => ?_)))
  · rw [if_pos (by assumption)]; rfl
  · rw [if_neg (by omega), if_neg (by omega)]; rfl
  have e0 : a.f0 = b.f0 := by omega
  rw [if_neg (by omega), if_pos e0]
  refine Wp.step (fun k => by rw [impl_compare.l0]) ?_
  simp only [r1, w1, l3]
  repeat' (first|(with_reducible refine Wp.itetB ?c_ ?_;(case c_=>first|exact Int.natCast_nonneg _|omega|assumption))|(with_reducible refine Wp.itefB ?c_ ?_;(case c_=>first|exact Int.natCast_nonneg _|omega|assumption))|(with_reducible refine Wp.itet ?c_ ?_;(case c_=>first|exact Int.natCast_nonneg _|omega|assumption))|(with_reducible refine Wp.itef ?c_ ?_;(case c_=>first|exact Int.natCast_nonneg _|omega|assumption))|(simp only [decide_eq_true_eq])|(with_reducible refine Wp.ret ?_)|(with_reducible refine Wp.itet ?c_ ?_;(case c_=>simp only [List.length_append, List.length_cons, List.length_nil, List.length_take, List.length_drop, List.length_replicate]; omega))|(with_reducible refine Wp.iteB (fun hc => ?_) (fun hc => ?_))|(with_reducible refine Wp.ite (fun hc => ?_) (fun hc => ?_)))
  · rw [if_pos (by assumption)]; rfl
  · rw [if_neg (by omega), if_neg (by omega)]; rfl
  have e1 : a.f1 = b.f1 := by omega
  rw [if_neg (by omega), if_pos e1]
  refine Wp.step (fun k => by rw [impl_compare.l0]) ?_
  simp only [r2, w2, l3]
  repeat' (first|(with_reducible refine Wp.itetB ?c_ ?_;(case c_=>first|exact Int.natCast_nonneg _|omega|assumption))|(with_reducible refine Wp.itefB ?c_ ?_;(case c_=>first|exact Int.natCast_nonneg _|omega|assumption))|(with_reducible refine Wp.itet ?c_ ?_;(case c_=>first|exact Int.natCast_nonneg _|omega|assumption))|(with_reducible refine Wp.itef ?c_ ?_;(case c_=>first|exact Int.natCast_nonneg _|omega|assumption))|(simp only [decide_eq_true_eq])|(with_reducible refine Wp.ret ?_)|(with_reducible refine Wp.itet ?c_ ?_;(case c_=>simp only [List.length_append, List.length_cons, List.length_nil, List.length_take, List.length_drop, List.length_replicate]; omega))|(with_reducible refine Wp.iteB (fun hc => ?_) (fun hc => ?_))|(with_reducible refine Wp.ite (fun hc => ?_) (fun hc => ?_)))
  · rw [if_pos (by assumption)]; rfl
  · rw [if_neg (by omega), if_neg (by omega)]; rfl
  have hll : a.f2.length = b.f2.length := by omega
  rw [if_neg (by omega), if_pos (by omega)]
  refine Wp.step (fun k => by rw [impl_compare.l0]) ?_
  refine Wp.itef (by decide) ?_
  refine Wp.both a.f2 zI_Term b.f2 zI_Term hll (by omega) (fun k i => impl_compare.l1 k a.f2.length i a.f0 a.f1 a.f2 b.f0 b.f1 b.f2) (fun p p' => p = p') ?_ ?_ rfl
  · intro p x q p' x' q' e1 e2 hp m m' hn hr hr' hw hI ih2
    refine Wp.step (fun k => by rw [impl_compare.l1]) ?_
    have ihx := ih x m (by have := sz_kid m; omega) x'
    have r1 : rd_I_Term a.f2 (p.length : Int) = x := hr
    have r2 : rd_I_Term b.f2 (p.length : Int) = x' := hr'
    simp only [hw.e, r1, r2]
    repeat' (first|(with_reducible refine Wp.itetB ?c_ ?_;(case c_=>first|exact Int.natCast_nonneg _|omega|assumption))|(with_reducible refine Wp.itefB ?c_ ?_;(case c_=>first|exact Int.natCast_nonneg _|omega|assumption))|(with_reducible refine Wp.itet ?c_ ?_;(case c_=>first|exact Int.natCast_nonneg _|omega|assumption))|(with_reducible refine Wp.itef ?c_ ?_;(case c_=>first|exact Int.natCast_nonneg _|omega|assumption))|(with_reducible refine Wp.bindE (ihx) ?_)|(simp only [decide_eq_true_eq])|(with_reducible refine Wp.ret ?_)|(with_reducible refine Wp.itet ?c_ ?_;(case c_=>simp only [List.length_append, List.length_cons, List.length_nil, List.length_take, List.length_drop, List.length_replicate]; omega))|(with_reducible refine Wp.iteB (fun hc => ?_) (fun hc => ?_))|(with_reducible refine Wp.ite (fun hc => ?_) (fun hc => ?_)))
    · have : cmpT x x' = .eq := by cases h : cmpT x x' <;> rw [h] at hc <;> first | rfl | exact absurd hc (by decide)
      exact ih2 (by rw [hI, cmpT_same.1 this])
    · rw [e1, e2, hI, cmpTs_pre, cmpTs]
      cases h : cmpT x x' <;> rw [h] at hc <;> first | rfl | exact absurd rfl hc
  · intro hI
    refine Wp.step (fun k => by rw [impl_compare.l1]) ?_
    repeat' (first|(with_reducible refine Wp.itetB ?c_ ?_;(case c_=>first|exact Int.natCast_nonneg _|omega|assumption))|(with_reducible refine Wp.itefB ?c_ ?_;(case c_=>first|exact Int.natCast_nonneg _|omega|assumption))|(with_reducible refine Wp.itet ?c_ ?_;(case c_=>first|exact Int.natCast_nonneg _|omega|assumption))|(with_reducible refine Wp.itef ?c_ ?_;(case c_=>first|exact Int.natCast_nonneg _|omega|assumption))|(simp only [decide_eq_true_eq])|(with_reducible refine Wp.ret ?_)|(with_reducible refine Wp.itet ?c_ ?_;(case c_=>simp only [List.length_append, List.length_cons, List.length_nil, List.length_take, List.length_drop, List.length_replicate]; omega))|(with_reducible refine Wp.iteB (fun hc => ?_) (fun hc => ?_))|(with_reducible refine Wp.ite (fun hc => ?_) (fun hc => ?_)))
    have := cmpTs_pre b.f2 [] []
    rw [List.append_nil, cmpTs] at this
    rw [hI, this]; rfl
theorem ordI_lt (o : Ordering) : decide (ordI o < 0) = (o == .lt) := by cases o <;> rfl
theorem impl_Before_ev (a b : I_Term) (h : sz a ≤ 1000000000) : Ev (fun k => impl_Before.f k a.f0 a.f1 a.f2 b.f0 b.f1 b.f2) (bef a b) := by
  unfold impl_Before.f
  exact ((impl_compare_ev a h b).bind Ev.ret).val (ordI_lt _)
theorem impl_Parts_ev (t : I_Term) (h : sz t ≤ 1000000000) : Ev (fun k => impl_Parts.f k t.f0 t.f1 t.f2) (sz t : Int) := by
  have key : ∀ t : I_Term, ∀ n : Nat, n + sz t ≤ 1000000000 → Ev (fun k => impl_each__impl_Parts_1.f k t.f0 t.f1 t.f2 n) ((n + sz t : Nat) : Int) := by
    intro t
    induction t using tInd with
    | h t ih =>
    intro n h
    have hlen := sz_kids t
    have hsz := sz_eq t
    refine Wp.ev ?_
    refine Wp.step (fun k => by rw [impl_each__impl_Parts_1.f]) ?_
    simp only [impl_Parts_1_v2.f, Option.bind_some, wrap_id (x := (n : Int) + 1) (by omega) (by omega)]
    refine Wp.each1 t.f2 zI_Term (by omega) (fun k i a => impl_each__impl_Parts_1.l0 k t.f2 t.f2.length i a) (fun p a => a = ((n + 1 + szs p : Nat) : Int)) ?_ ?_ _ (by simp [szs])
    · intro p x q a e m hn hr hw hI jh
      refine Wp.step (fun k => by rw [impl_each__impl_Parts_1.l0]) ?_
      have r1 : rd_I_Term t.f2 (p.length : Int) = x := hr
      have h2 : szs t.f2 = szs p + (sz x + szs q) := by rw [e, szs_append, szs]
      subst hI
      simp only [hw.e, r1]
      repeat' (first|(with_reducible refine Wp.itetB ?c_ ?_;(case c_=>first|exact Int.natCast_nonneg _|omega|assumption))|(with_reducible refine Wp.itefB ?c_ ?_;(case c_=>first|exact Int.natCast_nonneg _|omega|assumption))|(with_reducible refine Wp.itet ?c_ ?_;(case c_=>first|exact Int.natCast_nonneg _|omega|assumption))|(with_reducible refine Wp.itef ?c_ ?_;(case c_=>first|exact Int.natCast_nonneg _|omega|assumption))|(with_reducible refine Wp.bindE (ih x m _ (by omega)) ?_)|(exact jh _ (by rw [szs_append, szs, szs]; omega))|(simp only [decide_eq_true_eq])|(with_reducible refine Wp.ret ?_)|(with_reducible refine Wp.itet ?c_ ?_;(case c_=>simp only [List.length_append, List.length_cons, List.length_nil, List.length_take, List.length_drop, List.length_replicate]; omega))|(with_reducible refine Wp.iteB (fun hc => ?_) (fun hc => ?_))|(with_reducible refine Wp.ite (fun hc => ?_) (fun hc => ?_)))
    · intro a hI
      refine Wp.step (fun k => by rw [impl_each__impl_Parts_1.l0]) ?_
      repeat' (first|(with_reducible refine Wp.itetB ?c_ ?_;(case c_=>first|exact Int.natCast_nonneg _|omega|assumption))|(with_reducible refine Wp.itefB ?c_ ?_;(case c_=>first|exact Int.natCast_nonneg _|omega|assumption))|(with_reducible refine Wp.itet ?c_ ?_;(case c_=>first|exact Int.natCast_nonneg _|omega|assumption))|(with_reducible refine Wp.itef ?c_ ?_;(case c_=>first|exact Int.natCast_nonneg _|omega|assumption))|(simp only [decide_eq_true_eq])|(with_reducible refine Wp.ret ?_)|(with_reducible refine Wp.itet ?c_ ?_;(case c_=>simp only [List.length_append, List.length_cons, List.length_nil, List.length_take, List.length_drop, List.length_replicate]; omega))|(with_reducible refine Wp.iteB (fun hc => ?_) (fun hc => ?_))|(with_reducible refine Wp.ite (fun hc => ?_) (fun hc => ?_)))
      rw [hI]; omega
  unfold impl_Parts.f
  have := key t 0 (by omega)
  rw [Nat.zero_add] at this
  exact this.bind Ev.ret
def KidOk (s : List I_Sym) (f : Int) (l : List I_Term) (i : Nat) : Prop := (rd_I_Sym s f).f2 = true → (rd_I_Term l i).f0 ≠ f ∧ (0 < i → bef (rd_I_Term l i) (rd_I_Term l ((i : Int) - 1)) = false)
def RowT (s : List I_Sym) (t : I_Term) : Prop := (t.f0 = -1 ∧ (0 ≤ t.f1 ∧ t.f1 ≤ 99) ∧ t.f2.length = 0) ∨ (t.f0 ≠ -1 ∧ (0 ≤ t.f0 ∧ t.f0 < (s.length : Int)) ∧ t.f1 = 0 ∧ ((rd_I_Sym s t.f0).f2 = false → (t.f2.length : Int) = (rd_I_Sym s t.f0).f1) ∧ ((rd_I_Sym s t.f0).f2 = true → 2 ≤ t.f2.length) ∧ ∀ i, i < t.f2.length → KidOk s t.f0 t.f2 i)
inductive FormOk (s : List I_Sym) : I_Term → Prop
  | mk (t : I_Term) : RowT s t → (∀ x ∈ t.f2, FormOk s x) → FormOk s t
theorem FormOk.row {s : List I_Sym} {t : I_Term} (h : FormOk s t) : RowT s t := by cases h; assumption
theorem FormOk.kid {s : List I_Sym} {t : I_Term} (h : FormOk s t) : ∀ x ∈ t.f2, FormOk s x := by cases h; assumption
theorem rdTerm_mem {l : List I_Term} {i : Int} (h0 : 0 ≤ i) (h1 : i < (l.length : Int)) : rd_I_Term l i ∈ l := rdOf_mem (z := zI_Term) h0 h1
theorem rdTerm_all {l : List I_Term} {Q : I_Term → Prop} (h : ∀ i : Nat, i < l.length → Q (rd_I_Term l i)) : ∀ x ∈ l, Q x := by
  intro x hx
  obtain ⟨i, hi, rfl⟩ := List.getElem_of_mem hx
  have e : rd_I_Term l i = l[i] := by
    show l.getD i zI_Term = _
    rw [List.getD_eq_getElem?_getD, List.getElem?_eq_getElem hi]; rfl
  exact e ▸ h i hi
theorem impl_isSym_ev (s : List I_Sym) (hs : Names s) (f : Int) : Ev (fun _ => impl_isSym.f s f) (B (0 ≤ f ∧ f < (s.length : Int))) := by
  have h1 := hs.1
  unfold impl_isSym.f
  rw [wrap_id (x := (s.length : Int) - 1) (by omega) (by omega)]
  exact ((impl_from_ev _ _ _).bind Ev.ret).val (B_congr (by omega))
theorem formOk_iff {s : List I_Sym} {t : I_Term} (h : t.f0 ≠ -1) (h1 : 0 ≤ t.f0 ∧ t.f0 < (s.length : Int)) (h2 : t.f1 = 0) (h3 : (rd_I_Sym s t.f0).f2 = false → (t.f2.length : Int) = (rd_I_Sym s t.f0).f1) (h4 : (rd_I_Sym s t.f0).f2 = true → 2 ≤ t.f2.length) : ((∀ i, i < t.f2.length → FormOk s (rd_I_Term t.f2 i) ∧ KidOk s t.f0 t.f2 i) ∧ True) ↔ FormOk s t := by
  constructor
  · rintro ⟨k, _⟩
    exact .mk t (.inr ⟨h, h1, h2, h3, h4, fun i hi => (k i hi).2⟩) (rdTerm_all fun i hi => (k i hi).1)
  · intro k
    refine ⟨fun i hi => ⟨k.kid _ (rdTerm_mem (by omega) (by omega)), ?_⟩, trivial⟩
    rcases k.row with r | r
    · exact absurd r.1 h
    · exact r.2.2.2.2.2 i hi
theorem impl_formOk_ev (s : List I_Sym) (hs : Names s) (t : I_Term) : sz t ≤ 1000000000 → Ev (fun k => impl_formOk.f k s t.f0 t.f1 t.f2) (B (FormOk s t)) := by
  induction t using tInd with
  | h t ih =>
  intro h
  have hlen := sz_kids t
  refine Wp.ev ?_
  refine Wp.step (fun k => by rw [impl_formOk.f]) ?_
  have loop : t.f0 ≠ -1 → (0 ≤ t.f0 ∧ t.f0 < (s.length : Int)) → t.f1 = 0 → ((rd_I_Sym s t.f0).f2 = false → (t.f2.length : Int) = (rd_I_Sym s t.f0).f1) → ((rd_I_Sym s t.f0).f2 = true → 2 ≤ t.f2.length) → Wp (fun k => impl_formOk.l0 k s t.f2 t.f2.length 0 t.f0 t.f1 t.f2) (fun r => r = B (FormOk s t)) := by
    intro h0 h1 h2 h3 h4
    refine (Wp.all (Φ := fun i => FormOk s (rd_I_Term t.f2 i) ∧ KidOk s t.f0 t.f2 i) (Ψ := True) t.f2.length (by omega) (fun k i => impl_formOk.l0 k s t.f2 t.f2.length i t.f0 t.f1 t.f2) ?_ ?_).wp (B_congr (formOk_iff h0 h1 h2 h3 h4))
    · intro i P hi hw hT hF
      refine Wp.step (fun k => by rw [impl_formOk.l0]) ?_
      have m := rdTerm_mem (l := t.f2) (i := i) (by omega) (by omega)
      have hx := sz_kid m
      have e1 : 0 < i → wrap64 ((i : Int) - 1) = (i : Int) - 1 := fun _ => wrap_id (by omega) (by omega)
      simp only [hw.e]
      repeat' (first|(with_reducible refine Wp.itetB ?c_ ?_;(case c_=>first|exact Int.natCast_nonneg _|omega|assumption))|(with_reducible refine Wp.itefB ?c_ ?_;(case c_=>first|exact Int.natCast_nonneg _|omega|assumption))|(with_reducible refine Wp.itet ?c_ ?_;(case c_=>first|exact Int.natCast_nonneg _|omega|assumption))|(with_reducible refine Wp.itef ?c_ ?_;(case c_=>first|exact Int.natCast_nonneg _|omega|assumption))|(with_reducible refine Wp.bindE (ih _ m (by omega)) ?_)|(rw [e1 (by omega)])|(with_reducible refine Wp.bindE (impl_Before_ev _ _ (by omega)) ?_)|(simp only [decide_eq_true_eq])|(with_reducible refine Wp.ret ?_)|(with_reducible refine Wp.itet ?c_ ?_;(case c_=>simp only [List.length_append, List.length_cons, List.length_nil, List.length_take, List.length_drop, List.length_replicate]; omega))|(with_reducible refine Wp.iteB (fun hc => ?_) (fun hc => ?_))|(with_reducible refine Wp.ite (fun hc => ?_) (fun hc => ?_)))
      all_goals first | exact hT ⟨by assumption, by unfold KidOk; intro h5; simp_all; try omega⟩ | exact hF (by unfold KidOk; rintro ⟨h5, h6⟩; simp_all; try omega)
    · intro _
      refine Wp.step (fun k => by rw [impl_formOk.l0]) ?_
      refine Wp.itef (by omega) (Wp.ret ?_)
      rw [eqB]; simp
  repeat' (first|(with_reducible refine Wp.itetB ?c_ ?_;(case c_=>first|exact Int.natCast_nonneg _|omega|assumption))|(with_reducible refine Wp.itefB ?c_ ?_;(case c_=>first|exact Int.natCast_nonneg _|omega|assumption))|(with_reducible refine Wp.itet ?c_ ?_;(case c_=>first|exact Int.natCast_nonneg _|omega|assumption))|(with_reducible refine Wp.itef ?c_ ?_;(case c_=>first|exact Int.natCast_nonneg _|omega|assumption))|(with_reducible refine Wp.bindE (impl_isVar_ev _ _ _) ?_)|(with_reducible refine Wp.bindE (impl_from_ev _ _ _) ?_)|(with_reducible refine Wp.bindE (impl_isSym_ev s hs _) ?_)|(exact loop (by assumption) (by assumption) (by assumption) (by simp_all) (by simp_all; try omega))|(simp only [decide_eq_true_eq])|(with_reducible refine Wp.ret ?_)|(with_reducible refine Wp.itet ?c_ ?_;(case c_=>simp only [List.length_append, List.length_cons, List.length_nil, List.length_take, List.length_drop, List.length_replicate]; omega))|(with_reducible refine Wp.iteB (fun hc => ?_) (fun hc => ?_))|(with_reducible refine Wp.ite (fun hc => ?_) (fun hc => ?_)))
  all_goals (rw [eqB]; constructor)
  all_goals first | (intro h5; simp_all; done) | skip
  · intro h5
    simp only [decide_eq_true_eq] at h5
    refine .mk t (.inl ⟨by assumption, by assumption, by omega⟩) ?_
    have : t.f2 = [] := List.length_eq_zero_iff.1 (by omega)
    rw [this]; intro x hx; cases hx
  all_goals (intro h5; rcases h5.row with r | r <;> simp_all <;> omega)
def TermOk (s : List I_Sym) (t : I_Term) : Prop := SigOk s ∧ (sz t : Int) ≤ 60 ∧ FormOk s t
theorem impl_TermOk_ev (s : List I_Sym) (hs : Names s) (t : I_Term) (h : sz t ≤ 1000000000) : Ev (fun k => impl_TermOk.f k s t.f0 t.f1 t.f2) (B (TermOk s t)) := by
  refine Wp.ev ?_
  unfold impl_TermOk.f
  repeat' (first|(with_reducible refine Wp.itetB ?c_ ?_;(case c_=>first|exact Int.natCast_nonneg _|omega|assumption))|(with_reducible refine Wp.itefB ?c_ ?_;(case c_=>first|exact Int.natCast_nonneg _|omega|assumption))|(with_reducible refine Wp.itet ?c_ ?_;(case c_=>first|exact Int.natCast_nonneg _|omega|assumption))|(with_reducible refine Wp.itef ?c_ ?_;(case c_=>first|exact Int.natCast_nonneg _|omega|assumption))|(with_reducible refine Wp.bindE (impl_SigOk_ev s hs) ?_)|(with_reducible refine Wp.bindE (impl_Parts_ev t h) ?_)|(with_reducible refine Wp.bindE (impl_formOk_ev s hs t h) ?_)|(simp only [decide_eq_true_eq])|(with_reducible refine Wp.ret ?_)|(with_reducible refine Wp.itet ?c_ ?_;(case c_=>simp only [List.length_append, List.length_cons, List.length_nil, List.length_take, List.length_drop, List.length_replicate]; omega))|(with_reducible refine Wp.iteB (fun hc => ?_) (fun hc => ?_))|(with_reducible refine Wp.ite (fun hc => ?_) (fun hc => ?_)))
  · exact B_congr ⟨fun h => ⟨by assumption, by assumption, h⟩, fun h => h.2.2⟩
  · rw [eqB]; unfold TermOk; grind
  · rw [eqB]; unfold TermOk; grind
def LitOk (s : List I_Sym) (l : I_Lit) : Prop := TermOk s l.f1 ∧ TermOk s l.f2 ∧ bef l.f1 l.f2 = false
theorem impl_LitOk_ev (s : List I_Sym) (hs : Names s) (l : I_Lit) (h : szL l ≤ 1000000000) : Ev (fun k => impl_LitOk.f k s l.f0 l.f1.f0 l.f1.f1 l.f1.f2 l.f2.f0 l.f2.f1 l.f2.f2) (B (LitOk s l)) := by
  have h1 : sz l.f1 ≤ 1000000000 := by unfold szL at h; omega
  have h2 : sz l.f2 ≤ 1000000000 := by unfold szL at h; omega
  refine Wp.ev ?_
  unfold impl_LitOk.f
  repeat' (first|(with_reducible refine Wp.itetB ?c_ ?_;(case c_=>first|exact Int.natCast_nonneg _|omega|assumption))|(with_reducible refine Wp.itefB ?c_ ?_;(case c_=>first|exact Int.natCast_nonneg _|omega|assumption))|(with_reducible refine Wp.itet ?c_ ?_;(case c_=>first|exact Int.natCast_nonneg _|omega|assumption))|(with_reducible refine Wp.itef ?c_ ?_;(case c_=>first|exact Int.natCast_nonneg _|omega|assumption))|(with_reducible refine Wp.bindE (impl_TermOk_ev s hs l.f1 h1) ?_)|(with_reducible refine Wp.bindE (impl_TermOk_ev s hs l.f2 h2) ?_)|(with_reducible refine Wp.bindE (impl_Before_ev _ _ h1) ?_)|(simp only [decide_eq_true_eq])|(with_reducible refine Wp.ret ?_)|(with_reducible refine Wp.itet ?c_ ?_;(case c_=>simp only [List.length_append, List.length_cons, List.length_nil, List.length_take, List.length_drop, List.length_replicate]; omega))|(with_reducible refine Wp.iteB (fun hc => ?_) (fun hc => ?_))|(with_reducible refine Wp.ite (fun hc => ?_) (fun hc => ?_)))
  all_goals (rw [eqB]; unfold LitOk; grind)
theorem impl_compareLits_ev (a b : I_Lit) (h : szL a ≤ 1000000000) : Ev (fun k => impl_compareLits.f k a.f0 a.f1.f0 a.f1.f1 a.f1.f2 a.f2.f0 a.f2.f1 a.f2.f2 b.f0 b.f1.f0 b.f1.f1 b.f1.f2 b.f2.f0 b.f2.f1 b.f2.f2) (ordI (cmpL a b)) := by
  have h1 : sz a.f1 ≤ 1000000000 := by unfold szL at h; omega
  have h2 : sz a.f2 ≤ 1000000000 := by unfold szL at h; omega
  refine Wp.ev ?_
  unfold impl_compareLits.f cmpL
  repeat' (first|(with_reducible refine Wp.itetB ?c_ ?_;(case c_=>first|exact Int.natCast_nonneg _|omega|assumption))|(with_reducible refine Wp.itefB ?c_ ?_;(case c_=>first|exact Int.natCast_nonneg _|omega|assumption))|(with_reducible refine Wp.itet ?c_ ?_;(case c_=>first|exact Int.natCast_nonneg _|omega|assumption))|(with_reducible refine Wp.itef ?c_ ?_;(case c_=>first|exact Int.natCast_nonneg _|omega|assumption))|(with_reducible refine Wp.bindE (impl_compare_ev a.f1 h1 b.f1) ?_)|(with_reducible refine Wp.bindE (impl_compare_ev a.f2 h2 b.f2) ?_)|(simp only [decide_eq_true_eq])|(with_reducible refine Wp.ret ?_)|(with_reducible refine Wp.itet ?c_ ?_;(case c_=>simp only [List.length_append, List.length_cons, List.length_nil, List.length_take, List.length_drop, List.length_replicate]; omega))|(with_reducible refine Wp.iteB (fun hc => ?_) (fun hc => ?_))|(with_reducible refine Wp.ite (fun hc => ?_) (fun hc => ?_)))
  all_goals (cases ha : a.f0 <;> cases hb : b.f0 <;> simp_all [cmpB, ordI, Ordering.then])
  all_goals (cases h3 : cmpT a.f1 b.f1 <;> simp_all [ordI])
theorem impl_LitBefore_ev (a b : I_Lit) (h : szL a ≤ 1000000000) : Ev (fun k => impl_LitBefore.f k a.f0 a.f1.f0 a.f1.f1 a.f1.f2 a.f2.f0 a.f2.f1 a.f2.f2 b.f0 b.f1.f0 b.f1.f1 b.f1.f2 b.f2.f0 b.f2.f1 b.f2.f2) (litBef a b) := by
  unfold impl_LitBefore.f
  exact ((impl_compareLits_ev a b h).bind Ev.ret).val (ordI_lt _)
def LitRow (s : List I_Sym) (c : List I_Lit) (i : Nat) : Prop := LitOk s (rd_I_Lit c i) ∧ (0 < i → litBef (rd_I_Lit c ((i : Int) - 1)) (rd_I_Lit c i) = true)
def ClauseOk (s : List I_Sym) (c : List I_Lit) : Prop := (∀ i, i < c.length → LitRow s c i) ∧ (c.length : Int) ≤ 8
theorem rdLit_mem {l : List I_Lit} {i : Int} (h0 : 0 ≤ i) (h1 : i < (l.length : Int)) : rd_I_Lit l i ∈ l := rdOf_mem (z := zI_Lit) h0 h1
theorem impl_ClauseOk_ev (s : List I_Sym) (hs : Names s) (c : List I_Lit) (h : szC c ≤ 1000000000) : Ev (fun k => impl_ClauseOk.f k s c) (B (ClauseOk s c)) := by
  have hl := szC_len c
  unfold impl_ClauseOk.f
  refine Wp.all c.length (by omega) (fun k i => impl_ClauseOk.l0 k s c c.length i c) ?_ ?_
  · intro i P hi hw hT hF
    refine Wp.step (fun k => by rw [impl_ClauseOk.l0]) ?_
    have m := szC_mem (rdLit_mem (l := c) (i := i) (by omega) (by omega))
    have m2 : 0 < i → szL (rd_I_Lit c ((i : Int) - 1)) ≤ szC c := fun _ => szC_mem (rdLit_mem (l := c) (by omega) (by omega))
    have e1 : 0 < i → wrap64 ((i : Int) - 1) = (i : Int) - 1 := fun _ => wrap_id (by omega) (by omega)
    simp only [hw.e]
    repeat' (first|(with_reducible refine Wp.itetB ?c_ ?_;(case c_=>first|exact Int.natCast_nonneg _|omega|assumption))|(with_reducible refine Wp.itefB ?c_ ?_;(case c_=>first|exact Int.natCast_nonneg _|omega|assumption))|(with_reducible refine Wp.itet ?c_ ?_;(case c_=>first|exact Int.natCast_nonneg _|omega|assumption))|(with_reducible refine Wp.itef ?c_ ?_;(case c_=>first|exact Int.natCast_nonneg _|omega|assumption))|(with_reducible refine Wp.bindE (impl_LitOk_ev s hs _ (by omega)) ?_)|(rw [e1 (by omega)])|(with_reducible refine Wp.bindE (impl_LitBefore_ev _ _ (by have := m2 (by omega); omega)) ?_)|(simp only [decide_eq_true_eq])|(with_reducible refine Wp.ret ?_)|(with_reducible refine Wp.itet ?c_ ?_;(case c_=>simp only [List.length_append, List.length_cons, List.length_nil, List.length_take, List.length_drop, List.length_replicate]; omega))|(with_reducible refine Wp.iteB (fun hc => ?_) (fun hc => ?_))|(with_reducible refine Wp.ite (fun hc => ?_) (fun hc => ?_)))
    all_goals first | exact hT (by unfold LitRow; refine ⟨by assumption, fun h5 => ?_⟩; first | assumption | omega) | exact hF (by unfold LitRow; rintro ⟨h5, h6⟩; simp_all; try omega)
  · intro _
    refine Wp.step (fun k => by rw [impl_ClauseOk.l0]) ?_
    repeat' (first|(with_reducible refine Wp.itetB ?c_ ?_;(case c_=>first|exact Int.natCast_nonneg _|omega|assumption))|(with_reducible refine Wp.itefB ?c_ ?_;(case c_=>first|exact Int.natCast_nonneg _|omega|assumption))|(with_reducible refine Wp.itet ?c_ ?_;(case c_=>first|exact Int.natCast_nonneg _|omega|assumption))|(with_reducible refine Wp.itef ?c_ ?_;(case c_=>first|exact Int.natCast_nonneg _|omega|assumption))|(simp only [decide_eq_true_eq])|(with_reducible refine Wp.ret ?_)|(with_reducible refine Wp.itet ?c_ ?_;(case c_=>simp only [List.length_append, List.length_cons, List.length_nil, List.length_take, List.length_drop, List.length_replicate]; omega))|(with_reducible refine Wp.iteB (fun hc => ?_) (fun hc => ?_))|(with_reducible refine Wp.ite (fun hc => ?_) (fun hc => ?_)))
    rw [dec_B]
theorem tmod_rng0 {x n : Int} (h : 0 ≤ x) (hn : 0 < n) : 0 ≤ x.tmod n ∧ x.tmod n < n := by
  rw [Int.tmod_eq_emod_of_nonneg h]
  exact ⟨Int.emod_nonneg _ (by omega), Int.emod_lt_of_pos _ hn⟩
/-! #### what terms are in a world -/
theorem impl_Blind_ev (s : List I_Sym) (hs : Names s) (f : Int) : Ev (fun _ => impl_Blind.f s f) (B (Blind s f)) := by
  refine Wp.ev ?_
  unfold impl_Blind.f
  repeat' (first|(with_reducible refine Wp.itetB ?c_ ?_;(case c_=>first|exact Int.natCast_nonneg _|omega|assumption))|(with_reducible refine Wp.itefB ?c_ ?_;(case c_=>first|exact Int.natCast_nonneg _|omega|assumption))|(with_reducible refine Wp.itet ?c_ ?_;(case c_=>first|exact Int.natCast_nonneg _|omega|assumption))|(with_reducible refine Wp.itef ?c_ ?_;(case c_=>first|exact Int.natCast_nonneg _|omega|assumption))|(with_reducible refine Wp.bindE (impl_isSym_ev s hs f) ?_)|(simp only [decide_eq_true_eq])|(with_reducible refine Wp.ret ?_)|(with_reducible refine Wp.itet ?c_ ?_;(case c_=>simp only [List.length_append, List.length_cons, List.length_nil, List.length_take, List.length_drop, List.length_replicate]; omega))|(with_reducible refine Wp.iteB (fun hc => ?_) (fun hc => ?_))|(with_reducible refine Wp.ite (fun hc => ?_) (fun hc => ?_)))
  · rw [eqB]; exact ⟨fun h => ⟨hc.1, hc.2, h⟩, fun h => h.2.2⟩
  · rw [eqB]; exact ⟨fun h => absurd h (by decide), fun h => absurd ⟨h.1, h.2.1⟩ hc⟩
def placeOf (z : Int) : List Int → Int
  | [] => 0
  | a :: r => a + z * placeOf z r
def varV (z : Int) (env : List Int) (v : Int) : Int := if v ≥ (env.length : Int) then 0 else (((rd env v).tmod z) + z).tmod z
def foldV (z : Int) (t : List Int) : List Int → Int
  | [] => 0
  | a :: r => r.foldl (fun x y => opw z t x y) a
noncomputable def nodeV (s : List I_Sym) (z : Int) (T : List (List Int)) (env : List Int) (f v : Int) (vs : List Int) : Int :=
  if f = -1 then varV z env v else if B (Blind s f) = true then foldV z (rd_Ls_i64 T f) vs else rd (rd_Ls_i64 T f) (placeOf z vs)
mutual
noncomputable def mean (s : List I_Sym) (z : Int) (T : List (List Int)) (env : List Int) : I_Term → Int
  | ⟨f, v, l⟩ => nodeV s z T env f v (meanL s z T env l)
noncomputable def meanL (s : List I_Sym) (z : Int) (T : List (List Int)) (env : List Int) : List I_Term → List Int
  | [] => []
  | t :: l => mean s z T env t :: meanL s z T env l
end
theorem mean_eq (s : List I_Sym) (z : Int) (T : List (List Int)) (env : List Int) (t : I_Term) : mean s z T env t = nodeV s z T env t.f0 t.f1 (meanL s z T env t.f2) := by cases t; rw [mean]
theorem meanL_map (s : List I_Sym) (z : Int) (T : List (List Int)) (env : List Int) (l : List I_Term) : meanL s z T env l = l.map (mean s z T env) := by
  induction l with
  | nil => rw [meanL]; rfl
  | cons a l ih => rw [meanL, ih]; rfl
theorem placeOf_snoc (z x : Int) (a : List Int) : placeOf z (a ++ [x]) = placeOf z a + z ^ a.length * x := by
  induction a with
  | nil => simp [placeOf]
  | cons b a ih =>
    rw [List.cons_append, placeOf, placeOf, ih, List.length_cons, Int.pow_succ, Int.mul_add, ← Int.mul_assoc, Int.mul_comm (z ^ a.length) z, Int.add_assoc]
theorem placeOf_rng {z : Nat} (hz : 1 ≤ z ∧ z ≤ 4) {vs : List Int} (h : InR z vs) : 0 ≤ placeOf z vs ∧ placeOf z vs < ((z ^ vs.length : Nat) : Int) := by
  induction vs with
  | nil => simp [placeOf]
  | cons a r ih =>
    have ha := h a (by simp)
    have hr := ih (fun x hx => h x (by simp [hx]))
    rw [placeOf, List.length_cons, Nat.pow_succ]
    rcases z4 hz with rfl | rfl | rfl | rfl <;> omega
theorem foldV_rng {z : Nat} {t : List Int} (h : Sq z t) {vs : List Int} (hv : InR z vs) : 0 ≤ foldV z t vs ∧ foldV z t vs < z := by
  have hz := h.1
  cases vs with
  | nil => simp [foldV]; omega
  | cons a r =>
    have : ∀ (r : List Int) (a : Int), (0 ≤ a ∧ a < z) → InR z r → 0 ≤ r.foldl (fun x y => opw z t x y) a ∧ r.foldl (fun x y => opw z t x y) a < z := by
      intro r
      induction r with
      | nil => intro a ha _; exact ha
      | cons b r ih => intro a ha hr; exact ih _ (opw_rng h ha (hr b (by simp))) (fun x hx => hr x (by simp [hx]))
    exact this r a (hv a (by simp)) (fun x hx => hv x (by simp [hx]))
theorem varV_rng {z : Nat} (hz : 1 ≤ z ∧ z ≤ 4) (env : List Int) (v : Int) : 0 ≤ varV z env v ∧ varV z env v < z := by
  unfold varV
  split
  · omega
  · have h0 : (0 : Int) < z := by omega
    have h1 := Int.lt_tmod_of_pos (rd env v) h0
    have h2 := Int.tmod_lt_of_pos (rd env v) h0
    exact tmod_rng0 (by omega) h0
/-- what is known of a function's row -/
theorem row_sq {s : List I_Sym} {z : Nat} {T : List (List Int)} (hw : WorldOk s z T) {f : Int} (h : Blind s f) : Sq z (rd_Ls_i64 T f) := by
  obtain ⟨h0, h1, h2⟩ := h
  obtain ⟨n, rfl⟩ : ∃ n : Nat, f = n := ⟨f.toNat, by omega⟩
  have r := hw.2.2.2 n (by omega)
  have sg := hw.1.1 n (by omega)
  refine ⟨hw.2.1, ?_, r.2.1⟩
  rw [r.1, sg.2.2.2 h2]
  show z ^ 2 = z * z
  rw [Nat.pow_two]
theorem row_at {s : List I_Sym} {z : Nat} {T : List (List Int)} (hw : WorldOk s z T) {f : Int} (h0 : 0 ≤ f) (h1 : f < (s.length : Int)) : (rd_Ls_i64 T f).length = z ^ (rd_I_Sym s f).f1.toNat ∧ InR z (rd_Ls_i64 T f) ∧ 0 ≤ (rd_I_Sym s f).f1 ∧ (rd_I_Sym s f).f1 ≤ 3 := by
  obtain ⟨n, rfl⟩ : ∃ n : Nat, f = n := ⟨f.toNat, by omega⟩
  have r := hw.2.2.2 n (by omega)
  have sg := hw.1.1 n (by omega)
  exact ⟨r.1, r.2.1, sg.2.2.1.1, sg.2.2.1.2⟩
theorem mean_rng {s : List I_Sym} {z : Nat} {T : List (List Int)} (hw : WorldOk s z T) (env : List Int) (t : I_Term) : FormOk s t → 0 ≤ mean s z T env t ∧ mean s z T env t < z := by
  induction t using tInd with
  | h t ih =>
  intro hf
  have hv : InR z (meanL s z T env t.f2) := by
    rw [meanL_map]
    intro x hx
    obtain ⟨y, hy, rfl⟩ := List.mem_map.1 hx
    exact ih y hy (hf.kid y hy)
  rw [mean_eq, nodeV]
  split
  · exact varV_rng hw.2.1 env t.f1
  · rename_i h1
    split
    · rename_i h2
      exact foldV_rng (row_sq hw (B_iff.1 h2)) hv
    · rename_i h2
      rcases hf.row with r | r
      · exact absurd r.1 h1
      · obtain ⟨_, ⟨a, b⟩, _, c, d, _⟩ := r
        have h3 : (rd_I_Sym s t.f0).f2 = false := by
          cases h : (rd_I_Sym s t.f0).f2
          · rfl
          · exact absurd (B_iff.2 ⟨a, b, h⟩) h2
        obtain ⟨l1, l2, l3, l4⟩ := row_at hw a b
        have hp := placeOf_rng hw.2.1 hv
        have hl : (meanL s z T env t.f2).length = (rd_I_Sym s t.f0).f1.toNat := by rw [meanL_map, List.length_map]; have := c h3; omega
        rw [hl, ← l1] at hp
        exact l2 _ (rd_mem hp.1 hp.2)
theorem impl_means_ev {s : List I_Sym} (hs : Names s) {z : Nat} {T : List (List Int)} (hw : WorldOk s z T) (env : List Int) (he : env.length ≤ 1000000000) (t : I_Term) : sz t ≤ 1000000000 → FormOk s t → Ev (fun k => impl_means.f k s z T t.f0 t.f1 t.f2 env) (mean s z T env t) := by
  induction t using tInd with
  | h t ih =>
  intro ht hf
  have hlen := sz_kids t
  have hz := hw.2.1
  have hTl := hw.2.2.1
  refine Wp.ev ?_
  refine Wp.step (fun k => by rw [impl_means.f]) ?_
  rw [mean_eq, nodeV]
  refine Wp.bindE (impl_isVar_ev _ _ _) ?_
  refine Wp.iteB (fun hv => ?_) (fun hv => ?_)
  · rw [if_pos hv]
    have h1 : 0 ≤ t.f1 := by
      rcases hf.row with r | r
      · exact r.2.1.1
      · exact absurd hv r.1
    have h2 := Int.lt_tmod_of_pos (rd env t.f1) (b := z) (by omega)
    have h3 := Int.tmod_lt_of_pos (rd env t.f1) (b := z) (by omega)
    rw [wrap_id (x := (rd env t.f1).tmod z + z) (by omega) (by omega)]
    unfold varV
    refine Wp.ite (fun hc => Wp.ret (if_pos hc).symm) (fun hc => ?_)
    rw [if_neg hc]
    exact Wp.itet h1 (Wp.itet (by omega) (Wp.itef (by omega) (Wp.ret rfl)))
  · rw [if_neg hv]
    rcases hf.row with r | r
    · exact absurd r.1 hv
    obtain ⟨_, ⟨a, b⟩, _, c, d, _⟩ := r
    have vals : InR z (meanL s z T env t.f2) := by
      rw [meanL_map]
      intro x hx
      obtain ⟨y, hy, rfl⟩ := List.mem_map.1 hx
      exact mean_rng hw env y (hf.kid y hy)
    refine Wp.itet a (Wp.itet (by omega) (Wp.bindE (impl_Blind_ev s hs _) (Wp.iteB (fun hb => ?_) (fun hb => ?_))))
    · rw [if_pos (B_iff.2 hb)]
      have sq := row_sq hw hb
      have h2 := d hb.2.2
      obtain ⟨x0, r, e⟩ : ∃ x0 r, t.f2 = x0 :: r := by
        cases h : t.f2 with
        | nil => rw [h] at h2; simp at h2
        | cons x r => exact ⟨x, r, rfl⟩
      have m0 : x0 ∈ t.f2 := by rw [e]; simp
      have r0 : rd_I_Term t.f2 0 = x0 := by rw [e]; rfl
      have hk0 := sz_kid m0
      have ed : t.f2.drop (1 : Int).toNat = r := by rw [e]; rfl
      rw [r0, ed]
      refine Wp.itet (by omega) (Wp.bindE (ih x0 m0 (by omega) (hf.kid _ m0)) (Wp.itet (by omega) ?_))
      have hl1 : t.f2.length = r.length + 1 := by rw [e]; rfl
      have goal : foldV z (rd_Ls_i64 T t.f0) (meanL s z T env t.f2) = (r.map (mean s z T env)).foldl (fun x y => opw z (rd_Ls_i64 T t.f0) x y) (mean s z T env x0) := by rw [e, meanL, foldV, meanL_map]
      rw [goal]
      refine Wp.each1 r zI_Term (by omega) (fun k i x => impl_means.l0 k s env (rd_Ls_i64 T t.f0) x r r.length i z T) (fun p x => x = (p.map (mean s z T env)).foldl (fun x y => opw z (rd_Ls_i64 T t.f0) x y) (mean s z T env x0) ∧ (0 ≤ x ∧ x < z)) ?_ ?_ _ ⟨rfl, mean_rng hw env x0 (hf.kid _ m0)⟩
      · intro p y q x e2 m hn hr hwx hI jh
        refine Wp.step (fun k => by rw [impl_means.l0]) ?_
        have r1 : rd_I_Term r (p.length : Int) = y := hr
        have my : y ∈ t.f2 := by rw [e]; simp [m]
        have hky := sz_kid my
        have hy := mean_rng hw env y (hf.kid _ my)
        obtain ⟨o1, o2, o3, o4⟩ := opidx sq hI.2 hy
        rw [hwx.e, r1]
        refine Wp.itet (by omega) (Wp.itet (by omega) (Wp.itet (by omega) (Wp.bindE (ih y my (by omega) (hf.kid _ my)) ?_)))
        rw [o1, o2]
        refine Wp.itet o3 (Wp.itet o4 (jh _ ⟨?_, opw_rng sq hI.2 hy⟩))
        rw [List.map_append, List.foldl_append, ← hI.1]; rfl
      · intro x hI
        refine Wp.step (fun k => by rw [impl_means.l0]) ?_
        exact Wp.itef (by omega) (Wp.ret hI.1)
    · rw [if_neg (fun h => hb (B_iff.1 h))]
      have h3 : (rd_I_Sym s t.f0).f2 = false := by
        cases h : (rd_I_Sym s t.f0).f2
        · rfl
        · exact absurd ⟨a, b, h⟩ hb
      obtain ⟨l1, l2, l3, l4⟩ := row_at hw a b
      have hl := c h3
      refine Wp.each2 t.f2 zI_Term (by omega) (fun k i x u => impl_means.l1 k s env (rd_Ls_i64 T t.f0) x u t.f2 t.f2.length i z T) (fun p x u => x = placeOf z (meanL s z T env p) ∧ u = ((z ^ p.length : Nat) : Int)) ?_ ?_ _ _ ⟨by rw [meanL, placeOf], rfl⟩
      · intro p y q x u e2 m hn hr hwx hI jh
        refine Wp.step (fun k => by rw [impl_means.l1]) ?_
        obtain ⟨hI1, hI2⟩ := hI
        have r1 : rd_I_Term t.f2 (p.length : Int) = y := hr
        have hky := sz_kid m
        have hy := mean_rng hw env y (hf.kid _ m)
        have pv : InR z (meanL s z T env p) := by
          intro x hx
          rw [meanL_map] at hx
          obtain ⟨w, hw2, rfl⟩ := List.mem_map.1 hx
          exact mean_rng hw env w (hf.kid w (by rw [e2]; simp [hw2]))
        have pr := placeOf_rng hz pv
        have pl : (meanL s z T env p).length = p.length := by rw [meanL_map, List.length_map]
        rw [pl, ← hI1] at pr
        have hp3 : p.length = 0 ∨ p.length = 1 ∨ p.length = 2 := by omega
        have w1 : wrap64 (u * mean s z T env y) = u * mean s z T env y ∧ wrap64 (x + u * mean s z T env y) = x + u * mean s z T env y ∧ wrap64 (u * z) = u * z := by
          rcases z4 hz with rfl | rfl | rfl | rfl <;> rcases hp3 with e3 | e3 | e3 <;> rw [e3] at hI2 pr <;> simp at hI2 pr <;> rw [hI2] <;> refine ⟨wrap_id (by omega) (by omega), wrap_id (by omega) (by omega), wrap_id (by omega) (by omega)⟩
        rw [hwx.e, r1]
        refine Wp.itet (by omega) (Wp.itet (by omega) (Wp.itet (by omega) (Wp.bindE (ih y m (by omega) (hf.kid _ m)) ?_)))
        rw [w1.1, w1.2.1, w1.2.2]
        refine jh _ _ ⟨?_, ?_⟩
        · have em : meanL s z T env (p ++ [y]) = meanL s z T env p ++ [mean s z T env y] := by rw [meanL_map, meanL_map, List.map_append]; rfl
          rw [em, placeOf_snoc, hI1, hI2, pl]; simp
        · rw [hI2, List.length_append]; simp [Int.pow_succ]
      · intro x u hI
        refine Wp.step (fun k => by rw [impl_means.l1]) ?_
        have hp := placeOf_rng hz vals
        have hl2 : (meanL s z T env t.f2).length = (rd_I_Sym s t.f0).f1.toNat := by rw [meanL_map, List.length_map]; omega
        rw [hl2, ← l1, ← hI.1] at hp
        rw [← hI.1]
        exact Wp.itef (by omega) (Wp.itet hp.1 (Wp.itet hp.2 (Wp.ret rfl)))
/-! #### clauses in worlds -/
def LitTrue (s : List I_Sym) (z : Int) (T : List (List Int)) (env : List Int) (l : I_Lit) : Prop := (mean s z T env l.f1 = mean s z T env l.f2) ↔ l.f0 = true
def Some1 (s : List I_Sym) (z : Int) (T : List (List Int)) (c : List I_Lit) (env : List Int) : Prop := ∃ i, i < c.length ∧ LitTrue s z T env (rd_I_Lit c i)
/-- lits that are right -/
def LitsOk (s : List I_Sym) (c : List I_Lit) : Prop := ∀ l ∈ c, (sz l.f1 ≤ 1000000000 ∧ sz l.f2 ≤ 1000000000) ∧ FormOk s l.f1 ∧ FormOk s l.f2
theorem impl_someHolds_ev {s : List I_Sym} (hs : Names s) {z : Nat} {T : List (List Int)} (hw : WorldOk s z T) (env : List Int) (he : env.length ≤ 1000000000) (c : List I_Lit) (hl : c.length ≤ 1000000000) (hc : LitsOk s c) : Ev (fun k => impl_someHolds.f k s z T c env) (B (Some1 s z T c env)) := by
  have key : Ev (fun k => slices_IndexFunc_impl_Lit_impl_Lit__impl_someHolds_1.f k c s z T env) (fidx (fun i => LitTrue s z T env (rd_I_Lit c i)) c.length 0, s, (z : Int), T, env) := by
    unfold slices_IndexFunc_impl_Lit_impl_Lit__impl_someHolds_1.f
    refine Wp.find c.length hl (fun k i => slices_IndexFunc_impl_Lit_impl_Lit__impl_someHolds_1.l0 k c c.length i s z T env) (fun i => (i, s, (z : Int), T, env)) ?_ ?_
    · intro i P hi hwi hT hF
      refine Wp.step (fun k => by rw [slices_IndexFunc_impl_Lit_impl_Lit__impl_someHolds_1.l0]) ?_
      obtain ⟨⟨h1, h2⟩, h3, h4⟩ := hc _ (rdLit_mem (l := c) (i := i) (by omega) (by omega))
      have e : Ev (fun k => impl_someHolds_1_v2.f k (rd_I_Lit c i).f0 (rd_I_Lit c i).f1.f0 (rd_I_Lit c i).f1.f1 (rd_I_Lit c i).f1.f2 (rd_I_Lit c i).f2.f0 (rd_I_Lit c i).f2.f1 (rd_I_Lit c i).f2.f2 s z T env) (B (LitTrue s z T env (rd_I_Lit c i)), s, (z : Int), T, env) := by
        unfold impl_someHolds_1_v2.f
        refine ((impl_means_ev hs hw env he _ h1 h3).bind ((impl_means_ev hs hw env he _ h2 h4).bind Ev.ret)).val ?_
        have : decide (decide (mean s z T env (rd_I_Lit c i).f1 = mean s z T env (rd_I_Lit c i).f2) = (rd_I_Lit c i).f0) = B (LitTrue s z T env (rd_I_Lit c i)) := by
          rw [eqB, decide_eq_true_iff, LitTrue]
          cases (rd_I_Lit c i).f0 <;> simp
        rw [this]
      simp only [hwi.e]
      repeat' (first|(with_reducible refine Wp.itetB ?c_ ?_;(case c_=>first|exact Int.natCast_nonneg _|omega|assumption))|(with_reducible refine Wp.itefB ?c_ ?_;(case c_=>first|exact Int.natCast_nonneg _|omega|assumption))|(with_reducible refine Wp.itet ?c_ ?_;(case c_=>first|exact Int.natCast_nonneg _|omega|assumption))|(with_reducible refine Wp.itef ?c_ ?_;(case c_=>first|exact Int.natCast_nonneg _|omega|assumption))|(with_reducible refine Wp.bindE (e) ?_)|(simp only [decide_eq_true_eq])|(with_reducible refine Wp.ret ?_)|(with_reducible refine Wp.itet ?c_ ?_;(case c_=>simp only [List.length_append, List.length_cons, List.length_nil, List.length_take, List.length_drop, List.length_replicate]; omega))|(with_reducible refine Wp.iteB (fun hc => ?_) (fun hc => ?_))|(with_reducible refine Wp.ite (fun hc => ?_) (fun hc => ?_)))
      all_goals first | exact hF (by assumption) | exact hT (by assumption)
    · refine Wp.step (fun k => by rw [slices_IndexFunc_impl_Lit_impl_Lit__impl_someHolds_1.l0]) ?_
      exact Wp.itef (by omega) (Wp.ret rfl)
  unfold impl_someHolds.f slices_ContainsFunc_impl_Lit_impl_Lit__impl_someHolds_1.f
  refine ((key.bind Ev.ret).bind Ev.ret).val ?_
  rw [dec_B, B_congr fidx_ge]; rfl
/-- the n-th choice of things for variables -/
def envN (z : Nat) : List Int → Nat → List Int → List Int
  | [], _, e => e
  | v :: r, n, e => envN z r (n / z) (e.set v.toNat ((n % z : Nat) : Int))
def incE (z : Nat) : List Int → List Int → List Int
  | [], e => e
  | v :: r, e => if rd e v = (z : Int) - 1 then incE z r (e.set v.toNat 0) else e.set v.toNat (rd e v + 1)
/-- numbers of variables: each once, in a row of so many -/
def VarsIn (n : Nat) (l : List Int) : Prop := Inc l ∧ ∀ v ∈ l, 0 ≤ v ∧ v < (n : Int)
theorem envN_len (z : Nat) (l : List Int) : ∀ n e, (envN z l n e).length = e.length := by
  induction l with
  | nil => intro n e; rfl
  | cons v r ih => intro n e; rw [envN, ih, List.length_set]
theorem toNat_ne {a b : Int} (ha : 0 ≤ a) (hb : 0 ≤ b) (h : a ≠ b) : a.toNat ≠ b.toNat := by omega
theorem envN_set (z : Nat) {v : Int} (hv : 0 ≤ v) (x : Int) (l : List Int) (h : ∀ w ∈ l, 0 ≤ w ∧ v ≠ w) : ∀ n e, (envN z l n e).set v.toNat x = envN z l n (e.set v.toNat x) := by
  induction l with
  | nil => intro n e; rfl
  | cons w r ih =>
    intro n e
    have hw := h w (by simp)
    rw [envN, envN, ih (fun u hu => h u (by simp [hu])), List.set_comm _ _ (toNat_ne hv hw.1 hw.2)]
theorem rd_set_eq {e : List Int} {v : Int} (x : Int) (h : v.toNat < e.length) : rd (e.set v.toNat x) v = x := by
  show (e.set v.toNat x).getD v.toNat 0 = x
  rw [List.getD_eq_getElem?_getD, List.getElem?_set_self h]; rfl
theorem rd_set_ne {e : List Int} {v w : Int} (x : Int) (h : w.toNat ≠ v.toNat) : rd (e.set w.toNat x) v = rd e v := by
  show (e.set w.toNat x).getD v.toNat 0 = e.getD v.toNat 0
  rw [List.getD_eq_getElem?_getD, List.getD_eq_getElem?_getD, List.getElem?_set_ne h]
theorem envN_rd (z : Nat) {v : Int} (hv : 0 ≤ v) (l : List Int) (h : ∀ w ∈ l, 0 ≤ w ∧ v ≠ w) : ∀ n e, rd (envN z l n e) v = rd e v := by
  induction l with
  | nil => intro n e; rfl
  | cons w r ih =>
    intro n e
    have hw := h w (by simp)
    rw [envN, ih (fun u hu => h u (by simp [hu])), rd_set_ne _ (toNat_ne hw.1 hv (Ne.symm hw.2))]
theorem VarsIn.tl {n : Nat} {v : Int} {r : List Int} (h : VarsIn n (v :: r)) : VarsIn n r ∧ (0 ≤ v ∧ v < (n : Int)) ∧ ∀ w ∈ r, 0 ≤ w ∧ v ≠ w := by
  have h1 := List.pairwise_cons.1 h.1
  refine ⟨⟨h1.2, fun w hw => h.2 w (by simp [hw])⟩, h.2 v (by simp), fun w hw => ⟨(h.2 w (by simp [hw])).1, fun e => ?_⟩⟩
  have := h1.1 w hw
  omega
theorem env_next {z : Nat} (hz : 1 ≤ z) (l : List Int) : ∀ (n : Nat) (e : List Int), VarsIn e.length l → n + 1 < z ^ l.length → incE z l (envN z l n e) = envN z l (n + 1) e := by
  induction l with
  | nil => intro n e _ h; simp at h
  | cons v r ih =>
    intro n e hv h
    obtain ⟨hr, ⟨v0, v1⟩, hne⟩ := hv.tl
    have hvl : v.toNat < e.length := by omega
    have hm : n % z < z := Nat.mod_lt _ (by omega)
    have hdm : z * (n / z) + n % z = n := Nat.div_add_mod n z
    rw [incE, envN, envN_rd z v0 r hne, rd_set_eq _ hvl]
    by_cases hc : ((n % z : Nat) : Int) = (z : Int) - 1
    · rw [if_pos hc, envN_set z v0 0 r hne, List.set_set]
      have h1 : (n + 1) / z = n / z + 1 := by
        have : n + 1 = z * (n / z + 1) := by rw [Nat.mul_add]; omega
        rw [this, Nat.mul_div_cancel_left _ (by omega)]
      have h2 : (n + 1) % z = 0 := by
        have : n + 1 = z * (n / z + 1) := by rw [Nat.mul_add]; omega
        rw [this, Nat.mul_mod_right]
      rw [envN, h1, h2]
      refine ih (n / z) _ ?_ ?_
      · rw [List.length_set]; exact hr
      · rw [List.length_cons, Nat.pow_succ] at h
        have : z * (n / z + 1) < z * z ^ r.length := by rw [Nat.mul_comm z (z ^ _), Nat.mul_add]; omega
        exact Nat.lt_of_mul_lt_mul_left this
    · rw [if_neg hc, envN_set z v0 _ r hne, List.set_set, envN]
      have h3 : n % z + 1 < z := by omega
      have hp : z * (n / z) = n - n % z := by omega
      have h1 : (n + 1) / z = n / z := by
        have : n + 1 = (n % z + 1) + z * (n / z) := by omega
        rw [this, Nat.add_mul_div_left _ _ (by omega), Nat.div_eq_of_lt h3, Nat.zero_add]
      have h2 : (n + 1) % z = n % z + 1 := by
        have : n + 1 = (n % z + 1) + z * (n / z) := by omega
        rw [this, Nat.add_mul_mod_self_left, Nat.mod_eq_of_lt h3]
      rw [h1, h2]; rfl
theorem env_last {z : Nat} (hz : 1 ≤ z) (l : List Int) : ∀ (n : Nat) (e : List Int), VarsIn e.length l → n + 1 = z ^ l.length → ∀ v ∈ l, rd (envN z l n e) v = (z : Int) - 1 := by
  induction l with
  | nil => intro n e _ _ v h; cases h
  | cons v r ih =>
    intro n e hv h w hw
    obtain ⟨hr, ⟨v0, v1⟩, hne⟩ := hv.tl
    rw [List.length_cons, Nat.pow_succ, Nat.mul_comm] at h
    have hdm : z * (n / z) + n % z = n := Nat.div_add_mod n z
    have hm : n % z < z := Nat.mod_lt _ (by omega)
    have h1 : n / z + 1 = z ^ r.length := by
      have hp : 1 ≤ z ^ r.length := Nat.one_le_pow _ _ (by omega)
      obtain ⟨q, hq⟩ : ∃ q, z ^ r.length = q + 1 := ⟨z ^ r.length - 1, by omega⟩
      rw [hq] at h ⊢
      have : n = z * q + (z - 1) := by rw [Nat.mul_add] at h; omega
      rw [this, Nat.mul_add_div (by omega), Nat.div_eq_of_lt (by omega), Nat.add_zero]
    have h2 : n % z = z - 1 := by
      have : z * (n / z + 1) = z * (n / z) + z := by rw [Nat.mul_add]; omega
      rw [h1] at this
      omega
    rw [envN]
    rcases List.mem_cons.1 hw with rfl | hw
    · rw [envN_rd z v0 r hne, rd_set_eq _ (by omega), h2]; omega
    · exact ih (n / z) _ (by rw [List.length_set]; exact hr) h1 w hw
theorem env_stop {z : Nat} (hz : 1 ≤ z) (l : List Int) : ∀ (n : Nat) (e : List Int), VarsIn e.length l → n + 1 < z ^ l.length → ∃ v ∈ l, rd (envN z l n e) v ≠ (z : Int) - 1 := by
  induction l with
  | nil => intro n e _ h; simp at h
  | cons v r ih =>
    intro n e hv h
    obtain ⟨hr, ⟨v0, v1⟩, hne⟩ := hv.tl
    have hm : n % z < z := Nat.mod_lt _ (by omega)
    have hdm : z * (n / z) + n % z = n := Nat.div_add_mod n z
    by_cases hc : ((n % z : Nat) : Int) = (z : Int) - 1
    · obtain ⟨w, hw, h2⟩ := ih (n / z) (e.set v.toNat ((n % z : Nat) : Int)) (by rw [List.length_set]; exact hr) (by
        rw [List.length_cons, Nat.pow_succ] at h
        have : z * (n / z + 1) < z * z ^ r.length := by rw [Nat.mul_comm z (z ^ _), Nat.mul_add]; omega
        exact Nat.lt_of_mul_lt_mul_left this)
      exact ⟨w, by simp [hw], h2⟩
    · refine ⟨v, by simp, ?_⟩
      rw [envN, envN_rd z v0 r hne, rd_set_eq _ (by omega)]
      exact hc
theorem env_rng {z : Nat} (hz : 1 ≤ z) (l : List Int) : ∀ (n : Nat) (e : List Int), VarsIn e.length l → ∀ v ∈ l, 0 ≤ rd (envN z l n e) v ∧ rd (envN z l n e) v < z := by
  induction l with
  | nil => intro n e _ v h; cases h
  | cons v r ih =>
    intro n e hv w hw
    obtain ⟨hr, ⟨v0, v1⟩, hne⟩ := hv.tl
    have hm : n % z < z := Nat.mod_lt _ (by omega)
    rw [envN]
    rcases List.mem_cons.1 hw with rfl | hw
    · rw [envN_rd z v0 r hne, rd_set_eq _ (by omega)]; omega
    · exact ih (n / z) _ (by rw [List.length_set]; exact hr) w hw
theorem impl_always_ev {s : List I_Sym} (hs : Names s) {z : Nat} {T : List (List Int)} (hw : WorldOk s z T) (c : List I_Lit) (hl : szC c ≤ 100000000) (hc : LitsOk s c) (hv : VarsIn 100 (varsC c)) : Ev (fun k => impl_always.f k s z T c) (B (∀ n, n < z ^ (varsC c).length → Some1 s z T c (envN z (varsC c) n (List.replicate 100 0)))) := by
  have hz := hw.2.1
  have hcl := szC_len c
  have hvl := varsC_len c
  refine Wp.ev ?_
  unfold impl_always.f
  refine Wp.bindE (impl_ClauseVars_ev c hl) ?_
  generalize varsC c = vs at hv hvl ⊢
  rw [show (100 : Int).toNat = 100 from rfl]
  have step : ∀ (q p : List Int) (e : List Int), vs = p ++ q → e.length = 100 → (∀ v ∈ q, 0 ≤ rd e v ∧ rd e v < z) → ∀ (P : Bool → Prop), ((∃ v ∈ q, rd e v ≠ (z : Int) - 1) → Wp (fun k => impl_always.l0 k s vs (incE z q e) z T c) P) → ((∀ v ∈ q, rd e v = (z : Int) - 1) → P true) → Wp (fun k => impl_always.l1 k s vs e (p.length : Int) z T c) P := by
    intro q
    induction q with
    | nil =>
      intro p e hp he _ P h1 h2
      rw [List.append_nil] at hp
      subst hp
      refine Wp.step (fun k => by rw [impl_always.l1]) ?_
      exact Wp.itef (by omega) (Wp.itet rfl (Wp.ret (h2 (by simp))))
    | cons v q ih =>
      intro p e hp he hb P h1 h2
      refine Wp.step (fun k => by rw [impl_always.l1]) ?_
      have r1 : rd vs (p.length : Int) = v := by rw [hp]; exact rd_at p v q
      have hvl2 : vs.length = p.length + 1 + q.length := by rw [hp]; simp; omega
      have hv1 := hv.2 v (by rw [hp]; simp)
      have hinc : List.Pairwise (· < ·) (p ++ v :: q) := hp ▸ hv.1
      have hq : ∀ w ∈ q, v < w := (List.pairwise_cons.1 (List.pairwise_append.1 hinc).2.1).1
      rw [r1, wrap_id (x := (z : Int) - 1) (by omega) (by omega), wrap_id (x := (p.length : Int) + 1) (by omega) (by omega)]
      refine Wp.itet (by omega) (Wp.itet (Int.natCast_nonneg _) (Wp.itet hv1.1 (Wp.itet (by omega) (Wp.ite (fun h => ?_) (fun h => ?_)))))
      · have rset : ∀ w ∈ q, rd (e.set v.toNat 0) w = rd e w := fun w hw => rd_set_ne _ (by have := hq w hw; omega)
        have := ih (p ++ [v]) (e.set v.toNat 0) (by rw [hp]; simp) (by simp [he]) (fun w hw => by rw [rset w hw]; exact hb w (by simp [hw])) P (fun ⟨w, hw, h3⟩ => ?_) (fun h3 => h2 ?_)
        · rw [show (((p ++ [v]).length : Nat) : Int) = (p.length : Int) + 1 from by simp] at this
          exact this
        · have := h1 ⟨w, by simp [hw], by rw [← rset w hw]; exact h3⟩
          rw [incE, if_pos h] at this
          exact this
        · intro w hw
          rcases List.mem_cons.1 hw with rfl | hw
          · exact h
          · rw [← rset w hw]; exact h3 w hw
      · refine Wp.itef (by omega) ?_
        have h3 := h1 ⟨v, by simp, h⟩
        rw [incE, if_neg h] at h3
        have := hb v (by simp)
        rw [wrap_id (x := rd e v + 1) (by omega) (by omega)]
        exact h3
  have hpow : 1 ≤ z ^ vs.length := Nat.one_le_pow _ _ (by omega)
  have e100 : (List.replicate 100 (0 : Int)).length = 100 := List.length_replicate
  have hv' : VarsIn (List.replicate 100 (0 : Int)).length vs := by rw [e100]; exact hv
  have main : ∀ (d n : Nat), n + d + 1 = z ^ vs.length → (∀ m, m < n → Some1 s z T c (envN z vs m (List.replicate 100 0))) → Wp (fun k => impl_always.l0 k s vs (envN z vs n (List.replicate 100 0)) z T c) (fun r => r = B (∀ n, n < z ^ vs.length → Some1 s z T c (envN z vs n (List.replicate 100 0)))) := by
    intro d
    induction d with
    | zero =>
      intro n hn hall
      refine Wp.step (fun k => by rw [impl_always.l0]) ?_
      have hel : (envN z vs n (List.replicate 100 0)).length = 100 := by rw [envN_len, e100]
      refine Wp.bindE (impl_someHolds_ev hs hw _ (by omega) c (by omega) hc) (Wp.iteB (fun h => ?_) (fun h => Wp.ret ?_))
      · refine step vs [] _ rfl hel (env_rng hz.1 vs n _ hv') _ (fun ⟨v, hm, h2⟩ => absurd (env_last hz.1 vs n _ hv' (by omega) v hm) h2) (fun _ => ?_)
        rw [eqB]
        refine ⟨fun _ m hm => ?_, fun _ => rfl⟩
        by_cases e : m = n
        · rw [e]; exact h
        · exact hall m (by omega)
      · rw [eqB]
        exact ⟨fun h => absurd h (by decide), fun h2 => absurd (h2 n (by omega)) h⟩
    | succ d ih =>
      intro n hn hall
      refine Wp.step (fun k => by rw [impl_always.l0]) ?_
      have hel : (envN z vs n (List.replicate 100 0)).length = 100 := by rw [envN_len, e100]
      refine Wp.bindE (impl_someHolds_ev hs hw _ (by omega) c (by omega) hc) (Wp.iteB (fun h => ?_) (fun h => Wp.ret ?_))
      · refine step vs [] _ rfl hel (env_rng hz.1 vs n _ hv') _ (fun _ => ?_) (fun h2 => ?_)
        · rw [env_next hz.1 vs n _ hv' (by omega)]
          refine ih (n + 1) (by omega) (fun m hm => ?_)
          by_cases e : m = n
          · rw [e]; exact h
          · exact hall m (by omega)
        · obtain ⟨v, hm, h3⟩ := env_stop hz.1 vs n _ hv' (by omega)
          exact absurd (h2 v hm) h3
      · rw [eqB]
        exact ⟨fun h => absurd h (by decide), fun h2 => absurd (h2 n (by omega)) h⟩
  have h0 := main (z ^ vs.length - 1) 0 (by omega) (fun m hm => absurd hm (Nat.not_lt_zero m))
  have e0 : envN z vs 0 (List.replicate 100 0) = List.replicate 100 0 := by
    have : ∀ (l : List Int), (∀ v ∈ l, 0 ≤ v ∧ v < 100) → envN z l 0 (List.replicate 100 0) = List.replicate 100 0 := by
      intro l
      induction l with
      | nil => intro _; rfl
      | cons v r ih =>
        intro h
        rw [envN, Nat.zero_div, Nat.zero_mod]
        have : (List.replicate 100 (0 : Int)).set v.toNat ((0 : Nat) : Int) = List.replicate 100 0 := by
          have := h v (by simp)
          apply List.ext_getElem (by simp)
          intro i h1 h2
          rw [List.getElem_set, List.getElem_replicate]
          split
          · rfl
          · rfl
        rw [this]
        exact ih (fun w hw => h w (by simp [hw]))
    exact this vs (fun v hm => hv.2 v hm)
  rw [e0] at h0
  exact h0
theorem occ_rng {s : List I_Sym} (t : I_Term) : FormOk s t → ∀ v ∈ occT t, 0 ≤ v ∧ v < 100 := by
  induction t using tInd with
  | h t ih =>
  intro hf v hv
  rw [occT_eq] at hv
  rcases List.mem_append.1 hv with h | h
  · by_cases hm : t.f0 = -1
    · rw [if_pos hm] at h
      rcases hf.row with r | r
      · have := r.2.1
        rw [List.mem_singleton.1 h]; omega
      · exact absurd hm r.1
    · rw [if_neg hm] at h; cases h
  · have : ∀ l : List I_Term, (∀ x ∈ l, ∀ v ∈ occT x, 0 ≤ v ∧ v < 100) → ∀ v ∈ occL l, 0 ≤ v ∧ v < 100 := by
      intro l
      induction l with
      | nil => intro _ v h; rw [occL] at h; cases h
      | cons a l ihl =>
        intro h v hv
        rw [occL] at hv
        rcases List.mem_append.1 hv with h1 | h1
        · exact h a (by simp) v h1
        · exact ihl (fun x hx => h x (by simp [hx])) v h1
    exact this t.f2 (fun x hx => ih x hx (hf.kid x hx)) v h
theorem mem_varsC {c : List I_Lit} {v : Int} : v ∈ varsC c ↔ ∃ l ∈ c, v ∈ occT l.f1 ∨ v ∈ occT l.f2 := by
  have : ∀ (c : List I_Lit) (a : List Int), v ∈ c.foldl (fun a l => varsT l.f2 (varsT l.f1 a)) a ↔ v ∈ a ∨ ∃ l ∈ c, v ∈ occT l.f1 ∨ v ∈ occT l.f2 := by
    intro c
    induction c with
    | nil => intro a; simp
    | cons l c ih => intro a; rw [List.foldl_cons, ih, varsT_mem, varsT_mem]; simp only [List.mem_cons, exists_eq_or_imp]; grind
  have h := this c []
  unfold varsC
  rw [h]; simp
theorem rdLit_at {c : List I_Lit} {l : I_Lit} (h : l ∈ c) : ∃ i : Nat, i < c.length ∧ rd_I_Lit c i = l := by
  obtain ⟨i, hi, rfl⟩ := List.getElem_of_mem h
  refine ⟨i, hi, ?_⟩
  show c.getD i zI_Lit = _
  rw [List.getD_eq_getElem?_getD, List.getElem?_eq_getElem hi]; rfl
theorem ClauseOk.lit {s : List I_Sym} {c : List I_Lit} (h : ClauseOk s c) : ∀ l ∈ c, LitOk s l := by
  intro l hl
  obtain ⟨i, hi, rfl⟩ := rdLit_at hl
  exact (h.1 i hi).1
theorem ClauseOk.lits {s : List I_Sym} {c : List I_Lit} (h : ClauseOk s c) : LitsOk s c := by
  intro l hl
  have := h.lit l hl
  have h1 := this.1.2.1
  have h2 := this.2.1.2.1
  exact ⟨⟨by omega, by omega⟩, this.1.2.2, this.2.1.2.2⟩
theorem ClauseOk.vars {s : List I_Sym} {c : List I_Lit} (h : ClauseOk s c) : VarsIn 100 (varsC c) := by
  refine ⟨varsC_inc c, fun v hv => ?_⟩
  obtain ⟨l, hl, h1⟩ := mem_varsC.1 hv
  have := h.lit l hl
  rcases h1 with h1 | h1
  · exact occ_rng _ this.1.2.2 v h1
  · exact occ_rng _ this.2.1.2.2 v h1
/-- a clause is so in a world, whatever its variables are, which are m at most -/
def HoldsW (m : Nat) (s : List I_Sym) (z : Nat) (T : List (List Int)) (c : List I_Lit) : Prop := WorldOk s z T ∧ ClauseOk s c ∧ (varsC c).length ≤ m ∧ ∀ n, n < z ^ (varsC c).length → Some1 s z T c (envN z (varsC c) n (List.replicate 100 0))
theorem impl_True_ev {s : List I_Sym} (hs : Names s) {z : Int} {T : List (List Int)} (hT : Rows T) {c : List I_Lit} (hc : szC c ≤ 100000000) : Ev (fun k => impl_True.f k s z T c) (B (0 ≤ z ∧ HoldsW 4 s z.toNat T c)) := by
  refine Wp.ev ?_
  unfold impl_True.f
  refine Wp.bindE (impl_WorldOk_ev s z T hs hT) (Wp.iteB (fun h1 => Wp.bindE (impl_ClauseOk_ev s hs c (by omega)) (Wp.iteB (fun h2 => Wp.bindE (impl_ClauseVars_ev c hc) (Wp.ite (fun h3 => ?_) (fun h3 => Wp.ret ?_))) (fun h2 => Wp.ret ?_))) (fun h1 => Wp.ret ?_))
  · have e : z = ((z.toNat : Nat) : Int) := by omega
    have := impl_always_ev hs h1.2 c hc h2.lits h2.vars
    rw [← e] at this
    refine Wp.bindE this (Wp.ret (B_congr ⟨fun h => ⟨h1.1, h1.2, h2, by omega, ?_⟩, fun h => ?_⟩))
    · rw [← e]; exact h
    · have := h.2.2.2.2; rw [← e] at this; exact this
  · exact eqB.2 ⟨fun h => absurd h (by decide), fun h => absurd h.2.2.2.1 (by omega)⟩
  · exact eqB.2 ⟨fun h => absurd h (by decide), fun h => absurd h.2.2.1 h2⟩
  · exact eqB.2 ⟨fun h => absurd h (by decide), fun h => absurd ⟨h.1, h.2.1⟩ h1⟩
/-! #### terms and clauses that are right: the reference -/
theorem spec_Parts_ev (t : I_Term) : sz t ≤ 1000000000 → Ev (fun k => spec_Parts.f k t.f0 t.f1 t.f2) (sz t : Int) := by
  induction t using tInd with
  | h t ih =>
  intro h
  have hlen := sz_kids t
  have hsz := sz_eq t
  refine Wp.ev ?_
  refine Wp.step (fun k => by rw [spec_Parts.f]) ?_
  refine Wp.each1 t.f2 zI_Term (by omega) (fun k i a => spec_Parts.l0 k a i t.f0 t.f1 t.f2) (fun p a => a = ((1 + szs p : Nat) : Int)) ?_ ?_ _ (by simp [szs])
  · intro p x q a e m hn hr hw hI jh
    refine Wp.step (fun k => by rw [spec_Parts.l0]) ?_
    have r1 : rd_I_Term t.f2 (p.length : Int) = x := hr
    have h2 : szs t.f2 = szs p + (sz x + szs q) := by rw [e, szs_append, szs]
    rw [r1, hw.e]
    refine Wp.itet (by omega) (Wp.itet (Int.natCast_nonneg _) (Wp.bindE (ih x m (by omega)) ?_))
    rw [hI, wrap_id (by omega) (by omega)]
    exact jh _ (by rw [szs_append, szs, szs]; omega)
  · intro a hI
    refine Wp.step (fun k => by rw [spec_Parts.l0]) ?_
    exact Wp.itef (by omega) (Wp.ret (by rw [hI]; omega))
theorem spec_l4Right_ev (s : List I_Sym) (hs : Names s) (t : I_Term) : sz t ≤ 1000000000 → Ev (fun k => spec_l4Right.f k s t.f0 t.f1 t.f2) (B (FormOk s t)) := by
  induction t using tInd with
  | h t ih =>
  intro h
  have hlen := sz_kids t
  have hsl := hs.1
  refine Wp.ev ?_
  refine Wp.step (fun k => by rw [spec_l4Right.f]) ?_
  have loop : t.f0 ≠ -1 → (0 ≤ t.f0 ∧ t.f0 < (s.length : Int)) → t.f1 = 0 → ((rd_I_Sym s t.f0).f2 = false → (t.f2.length : Int) = (rd_I_Sym s t.f0).f1) → ((rd_I_Sym s t.f0).f2 = true → 2 ≤ t.f2.length) → Wp (fun k => spec_l4Right.l0 k s 0 t.f0 t.f1 t.f2) (fun r => r = B (FormOk s t)) := by
    intro h0 h1 h2 h3 h4
    refine (Wp.all (Φ := fun i => FormOk s (rd_I_Term t.f2 i) ∧ KidOk s t.f0 t.f2 i) (Ψ := True) t.f2.length (by omega) (fun k i => spec_l4Right.l0 k s i t.f0 t.f1 t.f2) ?_ ?_).wp (B_congr (formOk_iff h0 h1 h2 h3 h4))
    · intro i P hi hw hT hF
      refine Wp.step (fun k => by rw [spec_l4Right.l0]) ?_
      have m := rdTerm_mem (l := t.f2) (i := i) (by omega) (by omega)
      have hx := sz_kid m
      have e1 : 0 < i → wrap64 ((i : Int) - 1) = (i : Int) - 1 := fun _ => wrap_id (by omega) (by omega)
      simp only [hw.e]
      repeat' (first|(with_reducible refine Wp.itetB ?c_ ?_;(case c_=>first|exact Int.natCast_nonneg _|omega|assumption))|(with_reducible refine Wp.itefB ?c_ ?_;(case c_=>first|exact Int.natCast_nonneg _|omega|assumption))|(with_reducible refine Wp.itet ?c_ ?_;(case c_=>first|exact Int.natCast_nonneg _|omega|assumption))|(with_reducible refine Wp.itef ?c_ ?_;(case c_=>first|exact Int.natCast_nonneg _|omega|assumption))|(with_reducible refine Wp.bindE (ih _ m (by omega)) ?_)|(rw [e1 (by omega)])|(with_reducible refine Wp.bindE (spec_Before_ev _ (by omega) _) ?_)|(simp only [decide_eq_true_eq])|(with_reducible refine Wp.ret ?_)|(with_reducible refine Wp.itet ?c_ ?_;(case c_=>simp only [List.length_append, List.length_cons, List.length_nil, List.length_take, List.length_drop, List.length_replicate]; omega))|(with_reducible refine Wp.iteB (fun hc => ?_) (fun hc => ?_))|(with_reducible refine Wp.ite (fun hc => ?_) (fun hc => ?_)))
      all_goals first | exact hT ⟨by assumption, by unfold KidOk; intro h5; simp_all; try omega⟩ | exact hF (by unfold KidOk; rintro ⟨h5, h6⟩; simp_all; try omega)
    · intro _
      refine Wp.step (fun k => by rw [spec_l4Right.l0]) ?_
      refine Wp.itef (by omega) (Wp.ret ?_)
      rw [eqB]; simp
  have ew : wrap64 ((s.length : Int) - 1) = (s.length : Int) - 1 := wrap_id (by omega) (by omega)
  rw [ew]
  refine Wp.ite (fun hv => Wp.bindE (spec_l1In_ev _ _ _) (Wp.iteB (fun h1 => Wp.ret ?_) (fun h1 => Wp.ret ?_))) (fun hv => Wp.bindE (spec_l1In_ev _ _ _) (Wp.iteB (fun h1 => Wp.ite (fun h2 => Wp.itet h1.1 (Wp.itet (by omega) (Wp.ite (fun h3 => Wp.ite (fun h4 => Wp.ret ?_) (fun h4 => loop hv (by omega) h2 (fun h => by rw [h3] at h; cases h) (fun _ => by omega))) (fun h3 => Wp.ite (fun h4 => loop hv (by omega) h2 (fun _ => h4) (fun h => absurd h h3)) (fun h4 => Wp.ret ?_))))) (fun h2 => Wp.ret ?_)) (fun h1 => Wp.ret ?_)))
  all_goals (rw [eqB]; constructor)
  all_goals first | (intro h5; cases h5; done) | skip
  · intro h5
    simp only [decide_eq_true_eq] at h5
    refine .mk t (.inl ⟨hv, h1, by omega⟩) ?_
    have : t.f2 = [] := List.length_eq_zero_iff.1 (by omega)
    rw [this]; intro x hx; cases hx
  all_goals (intro h5; rcases h5.row with r | r <;> simp_all <;> omega)
theorem spec_TermOk_ev (s : List I_Sym) (hs : Names s) (t : I_Term) (h : sz t ≤ 1000000000) : Ev (fun k => spec_TermOk.f k s t.f0 t.f1 t.f2) (B (TermOk s t)) := by
  refine Wp.ev ?_
  unfold spec_TermOk.f
  repeat' (first|(with_reducible refine Wp.itetB ?c_ ?_;(case c_=>first|exact Int.natCast_nonneg _|omega|assumption))|(with_reducible refine Wp.itefB ?c_ ?_;(case c_=>first|exact Int.natCast_nonneg _|omega|assumption))|(with_reducible refine Wp.itet ?c_ ?_;(case c_=>first|exact Int.natCast_nonneg _|omega|assumption))|(with_reducible refine Wp.itef ?c_ ?_;(case c_=>first|exact Int.natCast_nonneg _|omega|assumption))|(with_reducible refine Wp.bindE (spec_SigOk_ev s hs) ?_)|(with_reducible refine Wp.bindE (spec_Parts_ev t h) ?_)|(with_reducible refine Wp.bindE (spec_l4Right_ev s hs t h) ?_)|(simp only [decide_eq_true_eq])|(with_reducible refine Wp.ret ?_)|(with_reducible refine Wp.itet ?c_ ?_;(case c_=>simp only [List.length_append, List.length_cons, List.length_nil, List.length_take, List.length_drop, List.length_replicate]; omega))|(with_reducible refine Wp.iteB (fun hc => ?_) (fun hc => ?_))|(with_reducible refine Wp.ite (fun hc => ?_) (fun hc => ?_)))
  · exact B_congr ⟨fun h => ⟨by assumption, by assumption, h⟩, fun h => h.2.2⟩
  · rw [eqB]; unfold TermOk; grind
  · rw [eqB]; unfold TermOk; grind
theorem spec_LitOk_ev (s : List I_Sym) (hs : Names s) (l : I_Lit) (h : szL l ≤ 1000000000) : Ev (fun k => spec_LitOk.f k s l.f0 l.f1.f0 l.f1.f1 l.f1.f2 l.f2.f0 l.f2.f1 l.f2.f2) (B (LitOk s l)) := by
  have h1 : sz l.f1 ≤ 1000000000 := by unfold szL at h; omega
  have h2 : sz l.f2 ≤ 1000000000 := by unfold szL at h; omega
  refine Wp.ev ?_
  unfold spec_LitOk.f
  repeat' (first|(with_reducible refine Wp.itetB ?c_ ?_;(case c_=>first|exact Int.natCast_nonneg _|omega|assumption))|(with_reducible refine Wp.itefB ?c_ ?_;(case c_=>first|exact Int.natCast_nonneg _|omega|assumption))|(with_reducible refine Wp.itet ?c_ ?_;(case c_=>first|exact Int.natCast_nonneg _|omega|assumption))|(with_reducible refine Wp.itef ?c_ ?_;(case c_=>first|exact Int.natCast_nonneg _|omega|assumption))|(with_reducible refine Wp.bindE (spec_TermOk_ev s hs l.f1 h1) ?_)|(with_reducible refine Wp.bindE (spec_TermOk_ev s hs l.f2 h2) ?_)|(with_reducible refine Wp.bindE (spec_Before_ev _ h1 _) ?_)|(simp only [decide_eq_true_eq])|(with_reducible refine Wp.ret ?_)|(with_reducible refine Wp.itet ?c_ ?_;(case c_=>simp only [List.length_append, List.length_cons, List.length_nil, List.length_take, List.length_drop, List.length_replicate]; omega))|(with_reducible refine Wp.iteB (fun hc => ?_) (fun hc => ?_))|(with_reducible refine Wp.ite (fun hc => ?_) (fun hc => ?_)))
  all_goals (rw [eqB]; unfold LitOk; grind)
theorem spec_ClauseOk_ev (s : List I_Sym) (hs : Names s) (c : List I_Lit) (h : szC c ≤ 1000000000) : Ev (fun k => spec_ClauseOk.f k s c) (B (ClauseOk s c)) := by
  have hl := szC_len c
  unfold spec_ClauseOk.f
  refine Wp.all c.length (by omega) (fun k i => spec_ClauseOk.l0 k s i c) ?_ ?_
  · intro i P hi hw hT hF
    refine Wp.step (fun k => by rw [spec_ClauseOk.l0]) ?_
    have m := szC_mem (rdLit_mem (l := c) (i := i) (by omega) (by omega))
    have m2 : 0 < i → szL (rd_I_Lit c ((i : Int) - 1)) ≤ szC c := fun _ => szC_mem (rdLit_mem (l := c) (by omega) (by omega))
    have e1 : 0 < i → wrap64 ((i : Int) - 1) = (i : Int) - 1 := fun _ => wrap_id (by omega) (by omega)
    simp only [hw.e]
    repeat' (first|(with_reducible refine Wp.itetB ?c_ ?_;(case c_=>first|exact Int.natCast_nonneg _|omega|assumption))|(with_reducible refine Wp.itefB ?c_ ?_;(case c_=>first|exact Int.natCast_nonneg _|omega|assumption))|(with_reducible refine Wp.itet ?c_ ?_;(case c_=>first|exact Int.natCast_nonneg _|omega|assumption))|(with_reducible refine Wp.itef ?c_ ?_;(case c_=>first|exact Int.natCast_nonneg _|omega|assumption))|(with_reducible refine Wp.bindE (spec_LitOk_ev s hs _ (by omega)) ?_)|(rw [e1 (by omega)])|(with_reducible refine Wp.bindE (spec_LitBefore_ev _ _ (by have := m2 (by omega); omega)) ?_)|(simp only [decide_eq_true_eq])|(with_reducible refine Wp.ret ?_)|(with_reducible refine Wp.itet ?c_ ?_;(case c_=>simp only [List.length_append, List.length_cons, List.length_nil, List.length_take, List.length_drop, List.length_replicate]; omega))|(with_reducible refine Wp.iteB (fun hc => ?_) (fun hc => ?_))|(with_reducible refine Wp.ite (fun hc => ?_) (fun hc => ?_)))
    all_goals first | exact hT (by unfold LitRow; refine ⟨by assumption, fun h5 => ?_⟩; first | assumption | omega) | exact hF (by unfold LitRow; rintro ⟨h5, h6⟩; simp_all; try omega)
  · intro _
    refine Wp.step (fun k => by rw [spec_ClauseOk.l0]) ?_
    repeat' (first|(with_reducible refine Wp.itetB ?c_ ?_;(case c_=>first|exact Int.natCast_nonneg _|omega|assumption))|(with_reducible refine Wp.itefB ?c_ ?_;(case c_=>first|exact Int.natCast_nonneg _|omega|assumption))|(with_reducible refine Wp.itet ?c_ ?_;(case c_=>first|exact Int.natCast_nonneg _|omega|assumption))|(with_reducible refine Wp.itef ?c_ ?_;(case c_=>first|exact Int.natCast_nonneg _|omega|assumption))|(simp only [decide_eq_true_eq])|(with_reducible refine Wp.ret ?_)|(with_reducible refine Wp.itet ?c_ ?_;(case c_=>simp only [List.length_append, List.length_cons, List.length_nil, List.length_take, List.length_drop, List.length_replicate]; omega))|(with_reducible refine Wp.iteB (fun hc => ?_) (fun hc => ?_))|(with_reducible refine Wp.ite (fun hc => ?_) (fun hc => ?_)))
    rw [dec_B]
theorem envN_snoc (z : Nat) (v : Int) (p : List Int) : ∀ n e, envN z (p ++ [v]) n e = (envN z p n e).set v.toNat (((n / z ^ p.length) % z : Nat) : Int) := by
  induction p with
  | nil => intro n e; simp [envN]
  | cons w p ih => intro n e; rw [List.cons_append, envN, envN, ih, List.length_cons, Nat.div_div_eq_div_mul, Nat.pow_succ, Nat.mul_comm]
/-! #### worlds, and what is so in them: the reference -/
theorem spec_l24Power_ev (z : Nat) (hz : 1 ≤ z ∧ z ≤ 4) (a : Nat) (ha : a ≤ 4) : Ev (fun k => spec_l24Power.f k z a) ((z ^ a : Nat) : Int) := by
  unfold spec_l24Power.f
  refine Wp.ev (Wp.cnt1 a (by omega) (fun k i s => spec_l24Power.l0 k z a s i) (fun i s => s = ((z ^ i : Nat) : Int)) ?_ ?_ 1 rfl)
  · intro i s hi hw hI ih
    refine Wp.step (fun k => by rw [spec_l24Power.l0]) ?_
    have hm : wrap64 (s * z) = ((z ^ (i + 1) : Nat) : Int) := by
      subst hI
      have : i = 0 ∨ i = 1 ∨ i = 2 ∨ i = 3 := by omega
      rcases z4 hz with rfl | rfl | rfl | rfl <;> rcases this with rfl | rfl | rfl | rfl <;> decide +kernel
    rw [hw.e, hm]
    exact Wp.itet (by omega) (ih _ rfl)
  · intro s hI
    refine Wp.step (fun k => by rw [spec_l24Power.l0]) ?_
    exact Wp.itef (by omega) (Wp.ret hI)
theorem twoW_ev {z : Nat} {T : List (List Int)} {f : Nat} (hf : f < T.length) (h : Sq z (rd_Ls_i64 T f)) {a b : Int} (ha : 0 ≤ a ∧ a < z) (hb : 0 ≤ b ∧ b < z) : Ev (fun _ => spec_l24Two.f z T f a b) (opw z (rd_Ls_i64 T f) a b) := by
  obtain ⟨h0, h1, h2, h3⟩ := opidx h ha hb
  refine Wp.ev ?_
  unfold spec_l24Two.f
  rw [h0, h1]
  exact Wp.itet (Int.natCast_nonneg _) (Wp.itet (by omega) (Wp.itet h2 (Wp.itet h3 (Wp.ret rfl))))
theorem spec_l24Blind_ev {z : Nat} {T : List (List Int)} {f : Nat} (hf : f < T.length) (h : Sq z (rd_Ls_i64 T f)) : Ev (fun k => spec_l24Blind.f k z T f) (B (Indiff z (rd_Ls_i64 T f))) := by
  have hz : z ≤ 1000000000 := by have := h.1.2; omega
  unfold spec_l24Blind.f
  refine (Wp.all (Φ := fun a => ∀ b : Nat, b < z → opw z (rd_Ls_i64 T f) a b = opw z (rd_Ls_i64 T f) b a ∧ ∀ c : Nat, c < z → opw z (rd_Ls_i64 T f) (opw z (rd_Ls_i64 T f) a b) c = opw z (rd_Ls_i64 T f) a (opw z (rd_Ls_i64 T f) b c)) (Ψ := True) z hz (fun k i => spec_l24Blind.l0 k f i z T) ?_ ?_).val (B_congr ?_)
  · intro a P hi hw hT hF
    refine Wp.step (fun k => by rw [spec_l24Blind.l0]) ?_
    refine Wp.itet (by omega) (Wp.allP (Φ := fun b => opw z (rd_Ls_i64 T f) a b = opw z (rd_Ls_i64 T f) b a ∧ ∀ c : Nat, c < z → opw z (rd_Ls_i64 T f) (opw z (rd_Ls_i64 T f) a b) c = opw z (rd_Ls_i64 T f) a (opw z (rd_Ls_i64 T f) b c)) z hz (fun k i => spec_l24Blind.l1 k f a i z T) ?_ ?_ hF)
    · intro b hj hwb hT2 hF2
      refine Wp.step (fun k => by rw [spec_l24Blind.l1]) ?_
      have rab := opw_rng h (a := a) (b := b) (by omega) (by omega)
      refine Wp.itet (by omega) (Wp.bindE (twoW_ev hf h (by omega) (by omega)) (Wp.bindE (twoW_ev hf h (by omega) (by omega)) (Wp.ite (fun hab => ?_) (fun hab => Wp.ret (hF2 (fun h => hab h.1))))))
      refine Wp.allP (Φ := fun c => opw z (rd_Ls_i64 T f) (opw z (rd_Ls_i64 T f) a b) c = opw z (rd_Ls_i64 T f) a (opw z (rd_Ls_i64 T f) b c)) z hz (fun k i => spec_l24Blind.l2 k f a b i z T) ?_ ?_ (fun h3 => hF2 (fun h => h3 h.2))
      · intro c hc hwc hT3 hF3
        refine Wp.step (fun k => by rw [spec_l24Blind.l2]) ?_
        have rbc := opw_rng h (a := b) (b := c) (by omega) (by omega)
        rw [hwc.e]
        exact Wp.itet (by omega) (Wp.bindE (twoW_ev hf h (by omega) (by omega)) (Wp.bindE (twoW_ev hf h rab (by omega)) (Wp.bindE (twoW_ev hf h (by omega) (by omega)) (Wp.bindE (twoW_ev hf h (by omega) rbc) (Wp.ite (fun he => hT3 he) (fun he => Wp.ret (hF3 he)))))))
      · intro hall
        refine Wp.step (fun k => by rw [spec_l24Blind.l2]) ?_
        rw [hwb.e]
        exact Wp.itef (by omega) (hT2 ⟨hab, hall⟩)
    · intro hall
      refine Wp.step (fun k => by rw [spec_l24Blind.l1]) ?_
      rw [hw.e]
      exact Wp.itef (by omega) (hT hall)
  · intro _
    refine Wp.step (fun k => by rw [spec_l24Blind.l0]) ?_
    exact Wp.itef (by omega) (Wp.ret (eqB.2 ⟨fun _ => trivial, fun _ => rfl⟩))
  · constructor
    · rintro ⟨hh, _⟩ a ha b hb c hc
      exact ⟨(hh a ha b hb).1, (hh a ha b hb).2 c hc⟩
    · intro hh
      have hz1 := h.1.1
      exact ⟨fun a ha b hb => ⟨(hh a ha b hb 0 (by omega)).1, fun c hc => (hh a ha b hb c hc).2⟩, trivial⟩
theorem spec_WorldOk_ev (s : List I_Sym) (z : Int) (T : List (List Int)) (hs : Names s) (hT : Rows T) : Ev (fun k => spec_WorldOk.f k s z T) (B (0 ≤ z ∧ WorldOk s z.toNat T)) := by
  refine Wp.ev ?_
  unfold spec_WorldOk.f
  refine Wp.bindE (spec_SigOk_ev s hs) (Wp.iteB (fun h1 => Wp.bindE (spec_l1In_ev _ _ _) (Wp.iteB (fun hz => Wp.ite (fun h2 => ?_) (fun h2 => Wp.ret ?_)) (fun hz => Wp.ret ?_))) (fun h1 => Wp.ret ?_))
  · obtain ⟨z, rfl⟩ : ∃ n : Nat, z = n := ⟨z.toNat, by omega⟩
    refine ((Wp.all (Φ := fun i => RowOk s z T i) (Ψ := True) s.length hs.1 (fun k i => spec_WorldOk.l0 k s i z T) ?_ ?_).val ?_).wp rfl
    · intro i P hi hw hT' hF
      refine Wp.step (fun k => by rw [spec_WorldOk.l0]) ?_
      have hrow := hT _ (rdRow_mem (T := T) (i := i) (by omega) (by omega))
      have sig := h1.1 i hi
      have s0 := sig.2.2.1
      obtain ⟨a, ha⟩ : ∃ a : Nat, (rd_I_Sym s i).f1 = a := ⟨(rd_I_Sym s i).f1.toNat, by omega⟩
      have hpw : Ev (fun k => spec_l24Power.f k z (rd_I_Sym s i).f1) ((z ^ (rd_I_Sym s i).f1.toNat : Nat) : Int) := by
        rw [ha]; exact spec_l24Power_ev z (by omega) a (by omega)
      refine Wp.itet (by omega) (Wp.itet (Int.natCast_nonneg _) (Wp.itet (by omega) (Wp.bindE hpw (Wp.ite (fun h3 => ?_) (fun h3 => Wp.ret (hF (fun h => h3 (by rw [h.1]))))))))
      have ew : wrap64 ((z : Int) - 1) = (z : Int) - 1 := wrap_id (by omega) (by omega)
      refine Wp.allP (Φ := fun j => 0 ≤ rd (rd_Ls_i64 T i) j ∧ rd (rd_Ls_i64 T i) j ≤ (z : Int) - 1) (rd_Ls_i64 T i).length hrow (fun k j => spec_WorldOk.l1 k s i j z T) ?_ ?_ ?_
      · intro j hj hwj hT2 hF2
        refine Wp.step (fun k => by rw [spec_WorldOk.l1]) ?_
        rw [hwj.e, ew]
        exact Wp.itet (Int.natCast_nonneg _) (Wp.itet (by omega) (Wp.itet (by omega) (Wp.itet (Int.natCast_nonneg _) (Wp.bindE (spec_l1In_ev _ _ _) (Wp.iteB (fun h => hT2 h) (fun h => Wp.ret (hF2 h)))))))
      · intro hall
        refine Wp.step (fun k => by rw [spec_WorldOk.l1]) ?_
        have hR : InR z (rd_Ls_i64 T i) := inR_rd.2 (fun ⟨j, hj, hn⟩ => hn (hall j hj))
        rw [hw.e]
        refine Wp.itet (Int.natCast_nonneg _) (Wp.itet (by omega) (Wp.itef (by omega) (Wp.itet (by omega) (Wp.ite (fun hac => ?_) (fun hac => hT' ⟨by omega, hR, fun h => absurd h hac⟩)))))
        have sq : Sq z (rd_Ls_i64 T i) := by
          refine ⟨by omega, ?_, hR⟩
          have e2 := sig.2.2.2 hac
          rw [e2] at h3
          have h3' : (rd_Ls_i64 T i).length = z ^ 2 := by exact Int.ofNat.inj h3
          rw [h3', Nat.pow_two]
        exact Wp.bindE (spec_l24Blind_ev (by omega) sq) (Wp.iteB (fun h => hT' ⟨by omega, hR, fun _ => h⟩) (fun h => Wp.ret (hF (fun h2 => h (h2.2.2 hac)))))
      · intro hn
        refine hF (fun h => hn (fun j hj => ?_))
        have := h.2.1 _ (rd_mem (t := rd_Ls_i64 T i) (i := j) (by omega) (by omega))
        omega
    · intro _
      refine Wp.step (fun k => by rw [spec_WorldOk.l0]) ?_
      exact Wp.itef (by omega) (Wp.ret (eqB.2 ⟨fun _ => trivial, fun _ => rfl⟩))
    · exact B_congr ⟨fun h => ⟨by omega, h1, by omega, by omega, h.1⟩, fun h => ⟨h.2.2.2.2, trivial⟩⟩
  · exact eqB.2 ⟨fun h => absurd h (by decide), fun h => absurd h.2.2.2.1 (by omega)⟩
  · exact eqB.2 ⟨fun h => absurd h (by decide), fun h => by have := h.2.2.1; exact absurd (by omega) hz⟩
  · exact eqB.2 ⟨fun h => absurd h (by decide), fun h => absurd h.2.1 h1⟩
theorem spec_l24Means_ev {s : List I_Sym} (hs : Names s) {z : Nat} {T : List (List Int)} (hw : WorldOk s z T) (env : List Int) (he : env.length ≤ 1000000000) (t : I_Term) : sz t ≤ 1000000000 → FormOk s t → Ev (fun k => spec_l24Means.f k s z T t.f0 t.f1 t.f2 env) (mean s z T env t) := by
  induction t using tInd with
  | h t ih =>
  intro ht hf
  have hlen := sz_kids t
  have hz := hw.2.1
  have hTl := hw.2.2.1
  refine Wp.ev ?_
  refine Wp.step (fun k => by rw [spec_l24Means.f]) ?_
  rw [mean_eq, nodeV]
  refine Wp.ite (fun hv => ?_) (fun hv => ?_)
  · have hv1 : t.f0 = -1 := by
      rcases hf.row with r | r
      · exact r.1
      · have := r.2.1.1; omega
    rw [if_pos hv1]
    have h1 : 0 ≤ t.f1 := by
      rcases hf.row with r | r
      · exact r.2.1.1
      · exact absurd hv1 r.1
    have h2 := Int.lt_tmod_of_pos (rd env t.f1) (b := z) (by omega)
    have h3 := Int.tmod_lt_of_pos (rd env t.f1) (b := z) (by omega)
    unfold varV
    refine Wp.ite (fun hc => Wp.ret (if_pos hc).symm) (fun hc => ?_)
    rw [if_neg hc]
    refine Wp.itet h1 (Wp.itet (by omega) (Wp.itef (by omega) (Wp.ite (fun hn => Wp.ret ?_) (fun hn => Wp.ret ?_))))
    · rw [wrap_id (by omega) (by omega), Int.tmod_eq_emod_of_nonneg (a := (rd env t.f1).tmod z + z) (by omega), Int.emod_eq_of_lt (by omega) (by omega)]
    · rw [Int.tmod_eq_emod_of_nonneg (a := (rd env t.f1).tmod z + z) (by omega), Int.add_emod_right, Int.emod_eq_of_lt (by omega) (by omega)]
  · have hv1 : ¬ t.f0 = -1 := by omega
    rw [if_neg hv1]
    rcases hf.row with r | r
    · exact absurd r.1 hv1
    obtain ⟨_, ⟨a, b⟩, _, c, d, _⟩ := r
    obtain ⟨F, hF⟩ : ∃ n : Nat, t.f0 = n := ⟨t.f0.toNat, by omega⟩
    have vals : InR z (meanL s z T env t.f2) := by
      rw [meanL_map]
      intro x hx
      obtain ⟨y, hy, rfl⟩ := List.mem_map.1 hx
      exact mean_rng hw env y (hf.kid y hy)
    have hvl : (meanL s z T env t.f2).length = t.f2.length := by rw [meanL_map, List.length_map]
    refine Wp.each1 t.f2 zI_Term (by omega) (fun k i x => spec_l24Means.l0 k s env x i z T t.f0 t.f1 t.f2) (fun p x => x = meanL s z T env p) ?_ ?_ [] (by rw [meanL])
    · intro p y q x e2 m hn hr hwx hI jh
      refine Wp.step (fun k => by rw [spec_l24Means.l0]) ?_
      have r1 : rd_I_Term t.f2 (p.length : Int) = y := hr
      have hky := sz_kid m
      have hxl : x.length = p.length := by rw [hI, meanL_map, List.length_map]
      rw [r1, hwx.e]
      exact Wp.itet (by omega) (Wp.itet (Int.natCast_nonneg _) (Wp.bindE (ih y m (by omega) (hf.kid _ m)) (Wp.itet (by simp; omega) (jh _ (by rw [hI, meanL_map, meanL_map, List.map_append]; rfl)))))
    · intro x hI
      refine Wp.step (fun k => by rw [spec_l24Means.l0]) ?_
      rw [← hI] at vals hvl
      refine Wp.itef (by omega) (Wp.bindE (spec_Blind_ev s hs _) (Wp.iteB (fun hb => ?_) (fun hb => ?_)))
      · rw [if_pos (B_iff.2 hb), ← hI]
        have sq := row_sq hw hb
        have h2 := d hb.2.2
        obtain ⟨x0, r, e⟩ : ∃ x0 r, x = x0 :: r := by
          cases h : x with
          | nil => rw [h] at hvl; simp at hvl; omega
          | cons x r => exact ⟨x, r, rfl⟩
        have r0 : rd x 0 = x0 := by rw [e]; rfl
        have hxl : x.length = r.length + 1 := by rw [e]; rfl
        rw [r0]
        refine Wp.itet (by omega) ?_
        have goal : foldV z (rd_Ls_i64 T t.f0) x = r.foldl (fun x y => opw z (rd_Ls_i64 T t.f0) x y) x0 := by rw [e, foldV]
        rw [goal]
        have loop : ∀ (q p : List Int) (v : Int), r = p ++ q → v = p.foldl (fun x y => opw z (rd_Ls_i64 T t.f0) x y) x0 → (0 ≤ v ∧ v < z) → Wp (fun k => spec_l24Means.l1 k x v ((p.length : Int) + 1) z T t.f0 t.f1 t.f2) (fun u => u = r.foldl (fun x y => opw z (rd_Ls_i64 T t.f0) x y) x0) := by
          intro q
          induction q with
          | nil =>
            intro p v hp hx _
            rw [List.append_nil] at hp
            subst hp
            refine Wp.step (fun k => by rw [spec_l24Means.l1]) ?_
            exact Wp.itef (by omega) (Wp.ret hx)
          | cons y q jh =>
            intro p v hp hx hrx
            refine Wp.step (fun k => by rw [spec_l24Means.l1]) ?_
            have hl2 : r.length = p.length + 1 + q.length := by rw [hp]; simp; omega
            have r1 : rd x ((p.length : Int) + 1) = y := by
              rw [e, hp]
              have := rd_at (x0 :: p) y q
              rw [List.length_cons] at this
              exact this
            have hy := vals y (by rw [e, hp]; simp)
            rw [r1, wrap_id (x := (p.length : Int) + 1 + 1) (by omega) (by omega)]
            have t2 : Ev (fun _ => spec_l24Two.f z T t.f0 v y) (opw z (rd_Ls_i64 T t.f0) v y) := by
              rw [hF] at sq ⊢
              exact twoW_ev (by omega) sq hrx hy
            refine Wp.itet (by omega) (Wp.itet (by omega) (Wp.bindE t2 ?_))
            have := jh (p ++ [y]) _ (by rw [hp]; simp) (by rw [List.foldl_append, ← hx]; rfl) (opw_rng sq hrx hy)
            rw [show (((p ++ [y]).length : Nat) : Int) + 1 = (p.length : Int) + 1 + 1 from by simp] at this
            exact this
        exact loop r [] x0 rfl rfl (vals x0 (by rw [e]; simp))
      · rw [if_neg (fun h => hb (B_iff.1 h)), ← hI]
        have h3 : (rd_I_Sym s t.f0).f2 = false := by
          cases h : (rd_I_Sym s t.f0).f2
          · rfl
          · exact absurd ⟨a, b, h⟩ hb
        obtain ⟨l1, l2, l3, l4⟩ := row_at hw a b
        have hl := c h3
        have hp := placeOf_rng hz vals
        have hx3 : x.length = (rd_I_Sym s t.f0).f1.toNat := by omega
        rw [hx3, ← l1] at hp
        rw [wrap_id (x := (x.length : Int) - 1) (by omega) (by omega)]
        have loop : ∀ (p q : List Int) (v : Int), x = p ++ q → v = placeOf z q → Wp (fun k => spec_l24Means.l2 k x v ((p.length : Int) - 1) z T t.f0 t.f1 t.f2) (fun u => u = rd (rd_Ls_i64 T t.f0) (placeOf z x)) := by
          intro p
          generalize hn : p.length = n
          induction n generalizing p with
          | zero =>
            intro q v hx hv
            obtain rfl : p = [] := List.length_eq_zero_iff.1 hn
            rw [List.nil_append] at hx
            subst hx
            refine Wp.step (fun k => by rw [spec_l24Means.l2]) ?_
            rw [hv]
            exact Wp.itef (by omega) (Wp.itet a (Wp.itet (by omega) (Wp.itet hp.1 (Wp.itet hp.2 (Wp.ret rfl)))))
          | succ n jh =>
            intro q v hx hv
            obtain ⟨p', y, rfl⟩ : ∃ p' y, p = p' ++ [y] := by
              have : p ≠ [] := by intro h; rw [h] at hn; simp at hn
              exact ⟨p.dropLast, p.getLast this, (List.dropLast_concat_getLast this).symm⟩
            have hn' : p'.length = n := by simpa using hn
            have hx' : x = p' ++ y :: q := by rw [hx]; simp
            refine Wp.step (fun k => by rw [spec_l24Means.l2]) ?_
            have hxl : x.length = n + 1 + q.length := by rw [hx']; simp; omega
            have r1 : rd x (((n + 1 : Nat) : Int) - 1) = y := by
              have := rd_at p' y q
              rw [← hx', hn'] at this
              rw [show (((n + 1 : Nat) : Int) - 1) = (n : Int) from by omega]
              exact this
            have vq : InR z q := fun w hw => vals w (by rw [hx']; simp [hw])
            have pq := placeOf_rng hz vq
            have hy := vals y (by rw [hx']; simp)
            have hq2 : q.length = 0 ∨ q.length = 1 ∨ q.length = 2 := by omega
            have w1 : wrap64 (v * z) = v * z ∧ wrap64 (v * z + y) = y + z * v := by
              rw [← hv] at pq
              rcases z4 hz with rfl | rfl | rfl | rfl <;> rcases hq2 with e3 | e3 | e3 <;> rw [e3] at pq <;> simp at pq <;> refine ⟨wrap_id (by omega) (by omega), ?_⟩ <;> rw [wrap_id (by omega) (by omega)] <;> omega
            rw [r1, w1.1, w1.2, wrap_id (x := ((n + 1 : Nat) : Int) - 1 - 1) (by omega) (by omega)]
            refine Wp.itet (by omega) (Wp.itet (by omega) (Wp.itet (by omega) ?_))
            have := jh p' hn' (y :: q) (y + z * v) hx' (by rw [placeOf, hv])
            rw [show ((n : Int) - 1) = ((n + 1 : Nat) : Int) - 1 - 1 from by omega] at this
            exact this
        exact loop x [] 0 (by simp) (by rw [placeOf])
theorem spec_l24Some_ev {s : List I_Sym} (hs : Names s) {z : Nat} {T : List (List Int)} (hw : WorldOk s z T) (env : List Int) (he : env.length ≤ 1000000000) (c : List I_Lit) (hl : c.length ≤ 1000000000) (hc : LitsOk s c) : Ev (fun k => spec_l24Some.f k s z T c env) (B (Some1 s z T c env)) := by
  unfold spec_l24Some.f
  have step := Wp.find (Φ := fun i => LitTrue s z T env (rd_I_Lit c i)) c.length hl (fun k i => spec_l24Some.l0 k s env i z T c) (fun i => decide (i ≥ 0)) ?_ ?_
  · refine step.val ?_
    rw [dec_B, B_congr fidx_ge]; rfl
  · intro i P hi hwi hT hF
    refine Wp.step (fun k => by rw [spec_l24Some.l0]) ?_
    obtain ⟨⟨h1, h2⟩, h3, h4⟩ := hc _ (rdLit_mem (l := c) (i := i) (by omega) (by omega))
    rw [hwi.e]
    refine Wp.itet (by omega) (Wp.itet (Int.natCast_nonneg _) (Wp.bindE (spec_l24Means_ev hs hw env he _ h1 h3) (Wp.bindE (spec_l24Means_ev hs hw env he _ h2 h4) (Wp.ite (fun h => Wp.ret ?_) (fun h => hT ?_)))))
    · have := hF (by unfold LitTrue; rw [← h]; simp)
      rw [decide_eq_true (by omega : (i : Int) ≥ 0)] at this
      exact this
    · intro h5
      unfold LitTrue at h5
      refine h ?_
      rw [Bool.eq_iff_iff, decide_eq_true_iff]; exact h5
  · refine Wp.step (fun k => by rw [spec_l24Some.l0]) ?_
    exact Wp.itef (by omega) (Wp.ret rfl)
theorem spec_True_ev {s : List I_Sym} (hs : Names s) {z : Int} {T : List (List Int)} (hT : Rows T) {c : List I_Lit} (hc : szC c ≤ 100000000) : Ev (fun k => spec_True.f k s z T c) (B (0 ≤ z ∧ HoldsW 4 s z.toNat T c)) := by
  have hcl := szC_len c
  have hvl := varsC_len c
  refine Wp.ev ?_
  unfold spec_True.f
  refine Wp.bindE (spec_ClauseVars_ev c (by omega)) (Wp.bindE (spec_WorldOk_ev s z T hs hT) (Wp.iteB (fun h1 => Wp.bindE (spec_ClauseOk_ev s hs c (by omega)) (Wp.iteB (fun h2 => Wp.ite (fun h3 => Wp.ret ?_) (fun h3 => ?_)) (fun h2 => Wp.ret ?_))) (fun h1 => Wp.ret ?_)))
  · exact eqB.2 ⟨fun h => absurd h (by decide), fun h => absurd h.2.2.2.1 (by omega)⟩
  · obtain ⟨z, rfl⟩ : ∃ n : Nat, z = n := ⟨z.toNat, by omega⟩
    obtain ⟨_, hw⟩ := h1
    rw [toNatCast] at hw ⊢
    have hz := hw.2.1
    have hv := h2.vars
    have hlo := h2.lits
    have e100 : (List.replicate 100 (0 : Int)).length = 100 := List.length_replicate
    refine Wp.bindE (spec_l24Power_ev z hz (varsC c).length (by omega)) ?_
    have key : Ev (fun k => spec_True.l0 k s (varsC c) ((z ^ (varsC c).length : Nat) : Int) 0 z T c) (B ((∀ n, n < z ^ (varsC c).length → Some1 s z T c (envN z (varsC c) n (List.replicate 100 0))) ∧ True)) := by
      generalize varsC c = vs at hv hvl h3 ⊢
      have hv' : VarsIn (List.replicate 100 (0 : Int)).length vs := by rw [e100]; exact hv
      have hpow : z ^ vs.length ≤ 256 := by
        have h4 : vs.length ≤ 4 := by omega
        exact Nat.le_trans (Nat.pow_le_pow_left hz.2 _) (Nat.pow_le_pow_right (n := 4) (by omega) h4)
      refine Wp.all (Φ := fun n => Some1 s z T c (envN z vs n (List.replicate 100 0))) (Ψ := True) (z ^ vs.length) (by omega) (fun k i => spec_True.l0 k s vs ((z ^ vs.length : Nat) : Int) i z T c) ?_ ?_
      · intro n P hn hwn hT' hF
        refine Wp.step (fun k => by rw [spec_True.l0]) ?_
        rw [show (100 : Int).toNat = 100 from rfl]
        refine Wp.itet (by exact Int.ofNat_lt.2 hn) ?_
        refine Wp.each2 vs 0 (by omega) (fun k i e l => spec_True.l1 k s vs ((z ^ vs.length : Nat) : Int) n e l i z T c) (fun p e l => e = envN z p n (List.replicate 100 0) ∧ l = ((n / z ^ p.length : Nat) : Int)) ?_ ?_ _ _ ⟨rfl, by simp⟩
        · intro p v q e l e2 m hnl hr hw2 hI jh
          obtain ⟨hI1, hI2⟩ := hI
          refine Wp.step (fun k => by rw [spec_True.l1]) ?_
          have r1 : rd vs (p.length : Int) = v := hr
          have hvv := hv.2 v m
          have hel : e.length = 100 := by rw [hI1, envN_len, e100]
          have e3 : Int.tmod l z = (((n / z ^ p.length) % z : Nat) : Int) := by rw [hI2]; rfl
          have e4 : wrap64 (Int.tdiv l z) = ((n / z ^ (p ++ [v]).length : Nat) : Int) := by
            have h5 : Int.tdiv l z = ((n / z ^ (p ++ [v]).length : Nat) : Int) := by
              rw [hI2, List.length_append, List.length_singleton, Nat.pow_succ, ← Nat.div_div_eq_div_mul]; rfl
            have h6 : n / z ^ (p ++ [v]).length ≤ n := Nat.div_le_self _ _
            rw [h5]
            generalize n / z ^ (p ++ [v]).length = g at h6
            exact wrap_id (by omega) (by omega)
          rw [r1, hw2.e, e3, e4]
          exact Wp.itet (by omega) (Wp.itet (Int.natCast_nonneg _) (Wp.itef (by omega) (Wp.itet hvv.1 (Wp.itet (by omega) (jh _ _ ⟨by rw [envN_snoc, ← hI1], rfl⟩)))))
        · intro e l hI
          refine Wp.step (fun k => by rw [spec_True.l1]) ?_
          have hel : e.length = 100 := by rw [hI.1, envN_len, e100]
          rw [hwn.e]
          refine Wp.itef (by omega) (Wp.bindE (spec_l24Some_ev hs hw e (by omega) c (by omega) hlo) (Wp.iteB (fun h => ?_) (fun h => Wp.ret ?_)))
          · exact hT' (by rw [← hI.1]; exact h)
          · exact hF (by rw [← hI.1]; exact h)
      · intro _
        refine Wp.step (fun k => by rw [spec_True.l0]) ?_
        exact Wp.itef (by omega) (Wp.ret (eqB.2 ⟨fun _ => trivial, fun _ => rfl⟩))
    exact key.wp (B_congr ⟨fun h => ⟨by omega, hw, h2, by omega, h.1⟩, fun h => ⟨h.2.2.2.2, trivial⟩⟩)
  · exact eqB.2 ⟨fun h => absurd h (by decide), fun h => absurd h.2.2.1 h2⟩
  · exact eqB.2 ⟨fun h => absurd h (by decide), fun h => absurd ⟨h.1, h.2.1⟩ h1⟩
/-! #### the laws' harness: how large, made anew, the same -/
theorem szl_wp {α : Type} (l : List α) (z : α) (hl : l.length ≤ maxLen) (L : Nat → Int → Int → Option Int) (g : Nat → α → Int → Option Int) (s : α → Nat)
    (hL : ∀ k left i, L (k + 1) left i = if i < (l.length : Int) then (if 0 ≤ i then ((g k (rdOf z l i) left).bind fun t => if t < 0 then some (-1) else L k t (wrap64 (i + 1))) else none) else some left)
    (hg : ∀ x ∈ l, ∀ left : Int, 0 ≤ left → left ≤ 1048576 → Wp (fun k => g k x left) (fun r => r < 0 ∨ (0 ≤ r ∧ r + s x ≤ left))) (left : Int) (h0 : 0 ≤ left) (h1 : left ≤ 1048576) :
    Wp (fun k => if wrap64 (left - (l.length : Int)) < 0 then some (-1) else L k (wrap64 (left - (l.length : Int))) 0) (fun r => r < 0 ∨ (0 ≤ r ∧ r + ((l.length + (l.map s).sum : Nat) : Int) ≤ left)) := by
  have hM : maxLen = 9223372036854775807 := rfl
  rw [wrap_id (by omega) (by omega)]
  refine Wp.ite (fun h => Wp.ret (.inl (by decide))) (fun h => ?_)
  refine Wp.each1 l z (by omega) (fun k i a => L k a i) (fun p a => 0 ≤ a ∧ a + ((l.length + (p.map s).sum : Nat) : Int) ≤ left) ?_ ?_ _ ⟨by omega, by simp⟩
  · intro p x q a e m hn hr hw hI ih
    refine Wp.step (fun k => hL k a _) ?_
    rw [hr, hw.e]
    refine Wp.itet (by omega) (Wp.itet (Int.natCast_nonneg _) (Wp.bind (hg x m a hI.1 (by omega)) fun r hr2 => Wp.ite (fun _ => Wp.ret (.inl (by decide))) (fun h2 => ih r ⟨by omega, ?_⟩)))
    rw [List.map_append, List.sum_append]
    simp only [List.map_cons, List.map_nil, List.sum_cons, List.sum_nil]
    omega
  · intro a hI
    exact Wp.step (fun k => hL k a _) (Wp.itef (by omega) (Wp.ret (.inr hI)))
theorem tol_wp {α β γ : Type} (l : List α) (z : α) (zb : β) (hl : l.length ≤ 1048576) (L : Nat → List β → Int → Option (List β)) (g : Nat → α → Option γ) (mk : γ → β) (e : α → γ)
    (hL : ∀ k acc i, L (k + 1) acc i = if i < (l.length : Int) then (if 0 ≤ i then ((g k (rdOf z l i)).bind fun t => if i < (acc.length : Int) then L k (acc.set i.toNat (mk t)) (wrap64 (i + 1)) else none) else none) else some acc)
    (hg : ∀ x ∈ l, Ev (fun k => g k x) (e x)) {Bd : Int} (hB : 1048576 ≤ Bd) :
    Ev (fun k => if 0 ≤ (l.length : Int) then (if (l.length : Int) ≤ Bd then L k (List.replicate (l.length : Int).toNat zb) 0 else none) else none) (l.map fun x => mk (e x)) := by
  refine Wp.ev (Wp.itet (Int.natCast_nonneg _) (Wp.itet (by omega) ?_))
  rw [toNatCast]
  refine Wp.each1 l z (by omega) (fun k i a => L k a i) (fun p a => a = p.map (fun x => mk (e x)) ++ List.replicate (l.length - p.length) zb) ?_ ?_ _ (by simp)
  · intro p x q a e' m hn hr hw hI ih
    refine Wp.step (fun k => hL k a _) ?_
    have hal : a.length = l.length := by rw [hI]; simp; omega
    rw [hr, hw.e]
    refine Wp.itet (by omega) (Wp.itet (Int.natCast_nonneg _) (Wp.bindE (hg x m) (Wp.itet (by omega) (ih _ ?_))))
    have hm : (p.map (fun x => mk (e x))).length = p.length := List.length_map ..
    rw [toNatCast, hI, List.set_append_right _ _ (by omega), hm, Nat.sub_self, show l.length - p.length = (l.length - (p ++ [x]).length) + 1 from by simp; omega, List.replicate_succ, List.set_cons_zero, List.map_append, List.append_assoc]
    rfl
  · intro a hI
    refine Wp.step (fun k => hL k a _) (Wp.itef (by omega) (Wp.ret ?_))
    rw [hI]; simp
theorem eql_wp {α : Type} (l : List α) (z : α) (hl : l.length ≤ 1000000000) (L : Nat → Int → Option Bool) (g : Nat → α → Option Bool)
    (hL : ∀ k i, L (k + 1) i = if i < (l.length : Int) then (if 0 ≤ i then (if i < (l.length : Int) then ((g k (rdOf z l i)).bind fun t => if t = true then L k (wrap64 (i + 1)) else some false) else none) else none) else some true)
    (hg : ∀ x ∈ l, Ev (fun k => g k x) true) : Ev (fun k => if (l.length : Int) = (l.length : Int) then L k 0 else some false) true := by
  refine Wp.ev (Wp.itet rfl ?_)
  refine Wp.each0 l z hl L (fun _ => True) ?_ ?_ trivial
  · intro p x q e m hn hr hw _ ih
    refine Wp.step (fun k => hL k _) ?_
    rw [hr, hw.e]
    exact Wp.itet (by omega) (Wp.itet (Int.natCast_nonneg _) (Wp.itet (by omega) (Wp.bindE (hg x m) (Wp.itet rfl (ih trivial)))))
  · intro _
    exact Wp.step (fun k => hL k _) (Wp.itef (by omega) (Wp.ret rfl))
/-- a law's argument is counted: too large, or no larger than that -/
theorem law_sz {g : Nat → Option Int} {f : Int → Nat → Option Bool} {P : Int → Prop} (hg : Wp g P) (h : ∀ r, P r → 0 ≤ r → Wp (fun k => f r k) (fun r => r = true)) : Wp (fun k => (g k).bind fun t => if t < 0 then some true else f t k) (fun r => r = true) :=
  Wp.bind hg fun r hr => Wp.ite (fun _ => Wp.ret rfl) (fun h2 => h r hr (by omega))
theorem sum_mem {α : Type} {s : α → Nat} {l : List α} {x : α} (h : x ∈ l) : s x ≤ (l.map s).sum := by
  induction l with
  | nil => cases h
  | cons a l ih =>
    rw [List.map_cons, List.sum_cons]
    rcases List.mem_cons.1 h with rfl | h
    · omega
    · have := ih h; omega
def cvSym (x : L_Sym) : I_Sym := ⟨x.f0, x.f1, x.f2⟩
theorem szSymS_wp (l : List L_Sym) (w : l.length ≤ maxLen ∧ ∀ y ∈ l, Wf_L_Sym y) (left : Int) (h0 : 0 ≤ left) (h1 : left ≤ 1048576) : Wp (fun k => laws_szSymS.f k l left) (fun r => r < 0 ∨ (0 ≤ r ∧ r + ((l.length + (l.map fun x => x.f0.size).sum : Nat) : Int) ≤ left)) := by
  unfold laws_szSymS.f
  refine szl_wp l zL_Sym w.1 (fun k left i => laws_szSymS.l0 k l left i) (fun _ x left => laws_szSym.f x.f0 x.f1 x.f2 left) (fun x => x.f0.size) (fun k left i => by rw [laws_szSymS.l0]; rfl) (fun x m left h0 h1 => ?_) left h0 h1
  have hM : maxLen = 9223372036854775807 := rfl
  have := (w.2 x m).1
  unfold laws_szSym.f
  rw [wrap_id (by omega) (by omega)]
  exact Wp.ite (fun _ => Wp.ret (.inl (by decide))) (fun _ => Wp.ret (.inr ⟨by omega, by omega⟩))
theorem toSymS_ev (l : List L_Sym) (hl : l.length ≤ 1048576) : Ev (fun k => laws_toSymS.f k l) (l.map cvSym) := by
  unfold laws_toSymS.f
  exact tol_wp l zL_Sym zI_Sym hl (fun k a i => laws_toSymS.l0 k l a i) (fun _ x => laws_toSym.f x.f0 x.f1 x.f2) (fun t => ⟨t.1, t.2.1, t.2.2⟩) (fun x => (x.f0, x.f1, x.f2)) (fun k a i => by rw [laws_toSymS.l0]; rfl) (fun x _ => Ev.ret) (by decide)
theorem eqSymS_ev (l : List I_Sym) (hl : l.length ≤ 1000000000) : Ev (fun k => laws_eqSymS.f k l l) true := by
  unfold laws_eqSymS.f
  refine eql_wp l zI_Sym hl (fun k i => laws_eqSymS.l0 k l l i) (fun _ x => laws_eqSym.f x.f0 x.f1 x.f2 x.f0 x.f1 x.f2) (fun k i => by rw [laws_eqSymS.l0]; rfl) (fun x _ => ?_)
  unfold laws_eqSym.f
  exact Wp.ev (Wp.itet rfl (Wp.itet rfl (Wp.itet rfl (Wp.ret rfl))))
theorem names_of {l : List L_Sym} {left : Int} (h : left ≤ 1048576) {r : Int} (h0 : 0 ≤ r) (k : r < 0 ∨ (0 ≤ r ∧ r + ((l.length + (l.map fun x => x.f0.size).sum : Nat) : Int) ≤ left)) : l.length ≤ 1048576 ∧ Names (l.map cvSym) := by
  have hk : l.length + (l.map fun x => x.f0.size).sum ≤ 1048576 := by omega
  refine ⟨by omega, by rw [List.length_map]; omega, fun x hx => ?_⟩
  obtain ⟨y, hy, rfl⟩ := List.mem_map.1 hx
  have := sum_mem (s := fun x : L_Sym => x.f0.size) hy
  show y.f0.size ≤ _
  have e : (fun x : L_Sym => x.f0.size) y = y.f0.size := rfl
  omega
theorem szIntS_wp (l : List Int) (w : l.length ≤ maxLen) (left : Int) (h0 : 0 ≤ left) (h1 : left ≤ 1048576) : Wp (fun _ => laws_szIntS.f l left) (fun r => r < 0 ∨ (0 ≤ r ∧ r + (l.length : Int) ≤ left)) := by
  have hM : maxLen = 9223372036854775807 := rfl
  unfold laws_szIntS.f
  rw [wrap_id (by omega) (by omega)]
  exact Wp.ite (fun _ => Wp.ret (.inl (by decide))) (fun _ => Wp.ret (.inr ⟨by omega, by omega⟩))
theorem szIntSS_wp (l : List (List Int)) (w : l.length ≤ maxLen ∧ ∀ y ∈ l, y.length ≤ maxLen) (left : Int) (h0 : 0 ≤ left) (h1 : left ≤ 1048576) : Wp (fun k => laws_szIntSS.f k l left) (fun r => r < 0 ∨ (0 ≤ r ∧ r + ((l.length + (l.map List.length).sum : Nat) : Int) ≤ left)) := by
  unfold laws_szIntSS.f
  exact szl_wp l [] w.1 (fun k left i => laws_szIntSS.l0 k l left i) (fun _ x left => laws_szIntS.f x left) List.length (fun k left i => by rw [laws_szIntSS.l0]; rfl) (fun x m left h0 h1 => szIntS_wp x (w.2 x m) left h0 h1) left h0 h1
theorem toIntS_ev (l : List Int) (hl : l.length ≤ 1048576) : Ev (fun k => laws_toIntS.f k l) l := by
  unfold laws_toIntS.f
  refine (tol_wp l 0 0 hl (fun k a i => laws_toIntS.l0 k l a i) (fun _ x => some x) (fun t => t) (fun x => x) (fun k a i => by rw [laws_toIntS.l0]; rfl) (fun x _ => Ev.ret) (by decide)).val ?_
  simp
theorem toIntSS_ev (l : List (List Int)) (hl : l.length ≤ 1048576) (h : ∀ x ∈ l, x.length ≤ 1048576) : Ev (fun k => laws_toIntSS.f k l) l := by
  unfold laws_toIntSS.f
  refine (tol_wp l [] [] hl (fun k a i => laws_toIntSS.l0 k l a i) (fun k x => laws_toIntS.f k x) (fun t => t) (fun x => x) (fun k a i => by rw [laws_toIntSS.l0]; rfl) (fun x m => toIntS_ev x (h x m)) (by decide)).val ?_
  simp
theorem eqIntS_ev (l : List Int) (hl : l.length ≤ 1000000000) : Ev (fun k => laws_eqIntS.f k l l) true := by
  unfold laws_eqIntS.f
  exact eql_wp l 0 hl (fun k i => laws_eqIntS.l0 k l l i) (fun _ _ => some true) (fun k i => by rw [laws_eqIntS.l0]; simp) (fun x _ => Ev.ret)
theorem eqIntSS_ev (l : List (List Int)) (hl : l.length ≤ 1000000000) (h : ∀ x ∈ l, x.length ≤ 1000000000) : Ev (fun k => laws_eqIntSS.f k l l) true := by
  unfold laws_eqIntSS.f
  exact eql_wp l [] hl (fun k i => laws_eqIntSS.l0 k l l i) (fun k x => laws_eqIntS.f k x x) (fun k i => by rw [laws_eqIntSS.l0]; rfl) (fun x m => eqIntS_ev x (h x m))
theorem rows_le {l : List (List Int)} {left : Int} (h : left ≤ 1048576) {r : Int} (h0 : 0 ≤ r) (k : r < 0 ∨ (0 ≤ r ∧ r + ((l.length + (l.map List.length).sum : Nat) : Int) ≤ left)) : l.length ≤ 1048576 ∧ ∀ x ∈ l, x.length ≤ 1048576 := by
  have hk : l.length + (l.map List.length).sum ≤ 1048576 := by omega
  exact ⟨by omega, fun x hx => by have := sum_mem (s := List.length) hx; omega⟩
mutual
def lsz : L_Term → Nat
  | ⟨_, _, l⟩ => lszs l + 1
def lszs : List L_Term → Nat
  | [] => 0
  | t :: l => lsz t + lszs l
end
theorem lsz_eq (t : L_Term) : lsz t = lszs t.f2 + 1 := by cases t; rw [lsz]
theorem lszs_mem {l : List L_Term} {x : L_Term} (h : x ∈ l) : lsz x ≤ lszs l := by
  induction l with
  | nil => cases h
  | cons a l ih =>
    rw [lszs]
    rcases List.mem_cons.1 h with rfl | h
    · omega
    · have := ih h; omega
theorem lszs_len (l : List L_Term) : l.length ≤ lszs l := by
  induction l with
  | nil => simp
  | cons x l ih => rw [List.length_cons, lszs, lsz_eq]; omega
theorem lszs_sum (l : List L_Term) : l.length + (l.map fun x => lsz x - 1).sum = lszs l := by
  induction l with
  | nil => simp [lszs]
  | cons x l ih => have := lsz_eq x; rw [List.length_cons, List.map_cons, List.sum_cons, lszs]; omega
theorem lInd {P : L_Term → Prop} (h : ∀ t, (∀ x ∈ t.f2, P x) → P t) (t : L_Term) : P t := by
  have key : ∀ n t, lsz t ≤ n → P t := by
    intro n
    induction n with
    | zero => intro t ht; rw [lsz_eq] at ht; omega
    | succ n ih => intro t ht; exact h t (fun x hx => ih x (by have := lszs_mem hx; rw [lsz_eq] at ht; omega))
  exact key _ t (Nat.le_refl _)
mutual
def cvT : L_Term → I_Term
  | ⟨f, v, l⟩ => ⟨f, v, cvTs l⟩
def cvTs : List L_Term → List I_Term
  | [] => []
  | t :: l => cvT t :: cvTs l
end
theorem cvT_eq (t : L_Term) : cvT t = ⟨t.f0, t.f1, cvTs t.f2⟩ := by cases t; rw [cvT]
theorem cvTs_map (l : List L_Term) : cvTs l = l.map cvT := by
  induction l with
  | nil => rw [cvTs]; rfl
  | cons a l ih => rw [cvTs, ih]; rfl
theorem sz_cvT (t : L_Term) : sz (cvT t) = lsz t := by
  induction t using lInd with
  | h t ih =>
    have : ∀ l : List L_Term, (∀ x ∈ l, sz (cvT x) = lsz x) → szs (cvTs l) = lszs l := by
      intro l
      induction l with
      | nil => intro _; rw [cvTs, szs, lszs]
      | cons a l ihl => intro h; rw [cvTs, szs, lszs, h a (by simp), ihl (fun x hx => h x (by simp [hx]))]
    rw [cvT_eq, sz_eq, lsz_eq, this _ ih]
theorem wfT_kid {t x : L_Term} (w : Wf_L_Term t) (h : x ∈ t.f2) : Wf_L_Term x := by cases w; rename_i a b c d; exact d x h
theorem wfT_len {t : L_Term} (w : Wf_L_Term t) : t.f2.length ≤ maxLen := by cases w; assumption
theorem szTerm_wp (t : L_Term) : Wf_L_Term t → ∀ left : Int, 0 ≤ left → left ≤ 1048576 → Wp (fun k => laws_szTerm.f k t.f0 t.f1 t.f2 left) (fun r => r < 0 ∨ (0 ≤ r ∧ r + ((lsz t - 1 : Nat) : Int) ≤ left)) := by
  induction t using lInd with
  | h t ih =>
  intro w left h0 h1
  have key : Wp (fun k => laws_szTermS.f k t.f2 left) (fun r => r < 0 ∨ (0 ≤ r ∧ r + ((t.f2.length + (t.f2.map fun x => lsz x - 1).sum : Nat) : Int) ≤ left)) := by
    refine Wp.step (fun k => by rw [laws_szTermS.f]) ?_
    exact szl_wp t.f2 zL_Term (wfT_len w) (fun k left i => laws_szTermS.l0 k t.f2 left i) (fun k x left => laws_szTerm.f k x.f0 x.f1 x.f2 left) (fun x => lsz x - 1) (fun k left i => by rw [laws_szTermS.l0]; rfl) (fun x m left h0 h1 => ih x m (wfT_kid w m) left h0 h1) left h0 h1
  rw [lszs_sum] at key
  refine Wp.step (fun k => by rw [laws_szTerm.f]) ?_
  rw [lsz_eq, Nat.add_sub_cancel]
  exact Wp.bind key fun r hr => Wp.ite (fun _ => Wp.ret (.inl (by decide))) (fun _ => Wp.ret hr)
theorem toTerm_ev (t : L_Term) : lsz t ≤ 1048577 → Ev (fun k => laws_toTerm.f k t.f0 t.f1 t.f2) ((cvT t).f0, (cvT t).f1, (cvT t).f2) := by
  induction t using lInd with
  | h t ih =>
  intro ht
  rw [lsz_eq] at ht
  have hl := lszs_len t.f2
  have key : Ev (fun k => laws_toTermS.f k t.f2) (cvTs t.f2) := by
    refine Ev.step (fun k => by rw [laws_toTermS.f]) ?_
    refine (tol_wp t.f2 zL_Term zI_Term (by omega) (fun k a i => laws_toTermS.l0 k t.f2 a i) (fun k x => laws_toTerm.f k x.f0 x.f1 x.f2) (fun t => ⟨t.1, t.2.1, t.2.2⟩) (fun x => ((cvT x).f0, (cvT x).f1, (cvT x).f2)) (fun k a i => by rw [laws_toTermS.l0]; rfl) (fun x m => ih x m (by have := lszs_mem m; omega)) (by decide)).val ?_
    rw [cvTs_map]
    simp only [tEta]
  refine Ev.step (fun k => by rw [laws_toTerm.f]) ?_
  rw [cvT_eq]
  exact key.bind Ev.ret
theorem eqTerm_ev (t : I_Term) : sz t ≤ 1000000000 → Ev (fun k => laws_eqTerm.f k t.f0 t.f1 t.f2 t.f0 t.f1 t.f2) true := by
  induction t using tInd with
  | h t ih =>
  intro ht
  have hlen := sz_kids t
  have key : Ev (fun k => laws_eqTermS.f k t.f2 t.f2) true := by
    refine Ev.step (fun k => by rw [laws_eqTermS.f]) ?_
    exact eql_wp t.f2 zI_Term (by omega) (fun k i => laws_eqTermS.l0 k t.f2 t.f2 i) (fun k x => laws_eqTerm.f k x.f0 x.f1 x.f2 x.f0 x.f1 x.f2) (fun k i => by rw [laws_eqTermS.l0]; rfl) (fun x m => ih x m (by have := sz_kid m; omega))
  refine Ev.step (fun k => by rw [laws_eqTerm.f]) ?_
  exact Wp.ev (Wp.itet rfl (Wp.itet rfl (Wp.bindE key (Wp.itet rfl (Wp.ret rfl)))))
def cvLit (x : L_Lit) : I_Lit := ⟨x.f0, cvT x.f1, cvT x.f2⟩
theorem szLitS_wp (l : List L_Lit) (w : l.length ≤ maxLen ∧ ∀ y ∈ l, Wf_L_Lit y) (left : Int) (h0 : 0 ≤ left) (h1 : left ≤ 1048576) : Wp (fun k => laws_szLitS.f k l left) (fun r => r < 0 ∨ (0 ≤ r ∧ r + ((l.length + (l.map fun x => (lsz x.f1 - 1) + (lsz x.f2 - 1)).sum : Nat) : Int) ≤ left)) := by
  unfold laws_szLitS.f
  refine szl_wp l zL_Lit w.1 (fun k left i => laws_szLitS.l0 k l left i) (fun k x left => laws_szLit.f k x.f0 x.f1.f0 x.f1.f1 x.f1.f2 x.f2.f0 x.f2.f1 x.f2.f2 left) (fun x => (lsz x.f1 - 1) + (lsz x.f2 - 1)) (fun k left i => by rw [laws_szLitS.l0]; rfl) (fun x m left h0 h1 => ?_) left h0 h1
  have wx := w.2 x m
  unfold laws_szLit.f
  refine Wp.bind (szTerm_wp x.f1 wx.2.1 left h0 h1) fun r hr => Wp.ite (fun _ => Wp.ret (.inl (by decide))) (fun _ => Wp.bind (szTerm_wp x.f2 wx.2.2 r (by omega) (by omega)) fun r2 hr2 => Wp.ite (fun _ => Wp.ret (.inl (by decide))) (fun _ => Wp.ret (.inr ⟨by omega, ?_⟩)))
  show r2 + (((lsz x.f1 - 1) + (lsz x.f2 - 1) : Nat) : Int) ≤ left
  omega
theorem toLitS_ev (l : List L_Lit) (hl : l.length ≤ 1048576) (h : ∀ x ∈ l, lsz x.f1 ≤ 1048577 ∧ lsz x.f2 ≤ 1048577) : Ev (fun k => laws_toLitS.f k l) (l.map cvLit) := by
  unfold laws_toLitS.f
  refine (tol_wp l zL_Lit zI_Lit hl (fun k a i => laws_toLitS.l0 k l a i) (fun k x => laws_toLit.f k x.f0 x.f1.f0 x.f1.f1 x.f1.f2 x.f2.f0 x.f2.f1 x.f2.f2) (fun t => ⟨t.1, ⟨t.2.1, t.2.2.1, t.2.2.2.1⟩, ⟨t.2.2.2.2.1, t.2.2.2.2.2.1, t.2.2.2.2.2.2⟩⟩) (fun x => (x.f0, (cvT x.f1).f0, (cvT x.f1).f1, (cvT x.f1).f2, (cvT x.f2).f0, (cvT x.f2).f1, (cvT x.f2).f2)) (fun k a i => by rw [laws_toLitS.l0]; rfl) (fun x m => ?_) (by decide)).val ?_
  · unfold laws_toLit.f
    exact (toTerm_ev x.f1 (h x m).1).bind ((toTerm_ev x.f2 (h x m).2).bind Ev.ret)
  · simp only [tEta]; rfl
theorem eqLitS_ev (l : List I_Lit) (hl : szC l ≤ 1000000000) : Ev (fun k => laws_eqLitS.f k l l) true := by
  have h2 := szC_len l
  unfold laws_eqLitS.f
  refine eql_wp l zI_Lit (by omega) (fun k i => laws_eqLitS.l0 k l l i) (fun k x => laws_eqLit.f k x.f0 x.f1.f0 x.f1.f1 x.f1.f2 x.f2.f0 x.f2.f1 x.f2.f2 x.f0 x.f1.f0 x.f1.f1 x.f1.f2 x.f2.f0 x.f2.f1 x.f2.f2) (fun k i => by rw [laws_eqLitS.l0]; rfl) (fun x m => ?_)
  have := szC_mem m
  have hx : szL x = sz x.f1 + sz x.f2 := rfl
  unfold laws_eqLit.f
  exact Wp.ev (Wp.itet rfl (Wp.bindE (eqTerm_ev x.f1 (by omega)) (Wp.itet rfl (Wp.bindE (eqTerm_ev x.f2 (by omega)) (Wp.itet rfl (Wp.ret rfl))))))
theorem lits_of {l : List L_Lit} {left : Int} (h : left ≤ 1048576) {r : Int} (h0 : 0 ≤ r) (k : r < 0 ∨ (0 ≤ r ∧ r + ((l.length + (l.map fun x => (lsz x.f1 - 1) + (lsz x.f2 - 1)).sum : Nat) : Int) ≤ left)) : l.length ≤ 1048576 ∧ (∀ x ∈ l, lsz x.f1 ≤ 1048577 ∧ lsz x.f2 ≤ 1048577) ∧ szC (l.map cvLit) ≤ 3145728 := by
  have hk : l.length + (l.map fun x => (lsz x.f1 - 1) + (lsz x.f2 - 1)).sum ≤ 1048576 := by omega
  refine ⟨by omega, fun x hx => ?_, ?_⟩
  · have := sum_mem (s := fun x : L_Lit => (lsz x.f1 - 1) + (lsz x.f2 - 1)) hx
    have e : (fun x : L_Lit => (lsz x.f1 - 1) + (lsz x.f2 - 1)) x = (lsz x.f1 - 1) + (lsz x.f2 - 1) := rfl
    omega
  · have : ∀ l : List L_Lit, szC (l.map cvLit) ≤ 2 * l.length + (l.map fun x => (lsz x.f1 - 1) + (lsz x.f2 - 1)).sum := by
      intro l
      induction l with
      | nil => simp [szC]
      | cons x l ih =>
        have h1 := lsz_eq x.f1
        have h2 := lsz_eq x.f2
        have h3 : szL (cvLit x) = lsz x.f1 + lsz x.f2 := by unfold szL cvLit; simp only [sz_cvT]
        rw [List.map_cons, szC, List.map_cons, List.sum_cons, List.length_cons, h3]
        omega
    have := this l
    omega
/-! #### the law -/
theorem FnExactTrue (x0 : List L_Sym) (x1 : L_World) (x2 : L_Clause) (w0 : x0.length ≤ maxLen ∧ ∀ y ∈ x0, Wf_L_Sym y) (w1 : Wf_L_World x1) (w2 : Wf_L_Clause x2) : ∃ k, laws_FnExactTrue.f k x0 x1.f0 x1.f1 x2.f0 = some true := by
  refine Wp.done ?_
  unfold laws_FnExactTrue.f
  refine law_sz (szSymS_wp x0 w0 1048576 (by decide) (by decide)) fun r0 h0 p0 => ?_
  obtain ⟨l0, hn⟩ := names_of (by decide) p0 h0
  have q0 : r0 ≤ 1048576 := by omega
  have sm : Wp (fun k => laws_szWorld.f k x1.f0 x1.f1 r0) (fun r => r < 0 ∨ (0 ≤ r ∧ r + ((x1.f1.length + (x1.f1.map List.length).sum : Nat) : Int) ≤ r0)) := by
    unfold laws_szWorld.f
    exact Wp.bind (szIntSS_wp x1.f1 ⟨w1.2.1, fun y hy => (w1.2.2 y hy).1⟩ r0 p0 q0) fun r hr => Wp.ite (fun _ => Wp.ret (.inl (by decide))) (fun _ => Wp.ret hr)
  refine law_sz sm fun r1 h1 p1 => ?_
  obtain ⟨l1, hr1⟩ := rows_le q0 p1 h1
  have q1 : r1 ≤ 1048576 := by omega
  have sc : Wp (fun k => laws_szClause.f k x2.f0 r1) (fun r => r < 0 ∨ (0 ≤ r ∧ r + ((x2.f0.length + (x2.f0.map fun x => (lsz x.f1 - 1) + (lsz x.f2 - 1)).sum : Nat) : Int) ≤ r1)) := by
    unfold laws_szClause.f
    exact Wp.bind (szLitS_wp x2.f0 w2 r1 p1 q1) fun r hr => Wp.ite (fun _ => Wp.ret (.inl (by decide))) (fun _ => Wp.ret hr)
  refine law_sz sc fun r2 h2 p2 => ?_
  obtain ⟨l2, hl2, hsz⟩ := lits_of q1 p2 h2
  have t1 := toSymS_ev x0 l0
  have t2 : Ev (fun k => laws_toWorld.f k x1.f0 x1.f1) (x1.f0, x1.f1) := by unfold laws_toWorld.f; exact (toIntSS_ev x1.f1 l1 hr1).bind Ev.ret
  have t3 : Ev (fun k => laws_toClause.f k x2.f0) (x2.f0.map cvLit) := by unfold laws_toClause.f; exact (toLitS_ev x2.f0 l2 hl2).bind Ev.ret
  have hT : Rows x1.f1 := fun x hx => by have := hr1 x hx; omega
  have e1 : Ev (fun k => laws_eqWorld.f k x1.f0 x1.f1 x1.f0 x1.f1) true := by unfold laws_eqWorld.f; exact Wp.ev (Wp.itet rfl (Wp.bindE (eqIntSS_ev x1.f1 (by omega) hT) (Wp.itet rfl (Wp.ret rfl))))
  have e2 : Ev (fun k => laws_eqClause.f k (x2.f0.map cvLit) (x2.f0.map cvLit)) true := by unfold laws_eqClause.f; exact Wp.ev (Wp.bindE (eqLitS_ev _ (by omega)) (Wp.itet rfl (Wp.ret rfl)))
  exact Wp.bindE t1 (Wp.bindE t2 (Wp.bindE t3 (Wp.bindE (spec_True_ev hn hT (by omega)) (Wp.bindE t1 (Wp.bindE t2 (Wp.bindE t3 (Wp.bindE (impl_True_ev hn hT (by omega)) (Wp.itet rfl (Wp.bindE t1 (Wp.bindE (eqSymS_ev _ hn.1) (Wp.itet rfl (Wp.bindE t2 (Wp.bindE e1 (Wp.itet rfl (Wp.bindE t3 (Wp.bindE e2 (Wp.itet rfl (Wp.ret rfl))))))))))))))))))
end Go.Proofs.YtggmgmkhohmfiaaGreat.Pure
