/- The function FnProducts returns true for all its arguments, on typed values. -/
import Derived.Test.YtejfjfhopapaaaaGProducts1
namespace Go.Proofs.Ytejfjfhopapaaaa.Pure
open Go Go.RowKit Go.Proofs.Ytejfjfhopapaaaa.PE
set_option linter.unusedVariables false
set_option linter.unusedSimpArgs false
/-! #### what a function with rounds comes to -/
def Ev {α : Type} (g : Nat → Option α) (r : α) : Prop := ∃ K, ∀ k, K ≤ k → g k = some r
def Wp {α : Type} (g : Nat → Option α) (P : α → Prop) : Prop := ∃ r, Ev g r ∧ P r
theorem Ev.ret {α : Type} {r : α} : Ev (fun _ => some r) r := ⟨0, fun _ _ => rfl⟩
theorem Ev.cst {α : Type} {g : Option α} {r : α} (h : g = some r) : Ev (fun _ => g) r := ⟨0, fun _ _ => h⟩
theorem Wp.ret {ρ : Type} {P : ρ → Prop} {r : ρ} (h : P r) : Wp (fun _ => some r) P := ⟨r, Ev.ret, h⟩
theorem Ev.bind {α β : Type} {g : Nat → Option α} {f : α → Nat → Option β} {v : α} {r : β} (h : Ev g v) (k : Ev (fun k => f v k) r) : Ev (fun k => (g k).bind fun x => f x k) r := by
  obtain ⟨K, h⟩ := h; obtain ⟨M, k⟩ := k
  exact ⟨max K M, fun n hn => by show (g n).bind _ = _; rw [h n (by omega)]; exact k n (by omega)⟩
theorem Wp.bindE {α ρ : Type} {P : ρ → Prop} {g : Nat → Option α} {f : α → Nat → Option ρ} {v : α} (h : Ev g v) (k : Wp (fun k => f v k) P) : Wp (fun k => (g k).bind fun x => f x k) P := by
  obtain ⟨r, k, p⟩ := k; exact ⟨r, h.bind k, p⟩
theorem Wp.bind {α ρ : Type} {P : ρ → Prop} {g : Nat → Option α} {f : α → Nat → Option ρ} {Q : α → Prop} (h : Wp g Q) (k : ∀ v, Q v → Wp (fun k => f v k) P) : Wp (fun k => (g k).bind fun x => f x k) P := by
  obtain ⟨v, h, q⟩ := h; exact Wp.bindE h (k v q)
theorem Ev.step {α : Type} {g f : Nat → Option α} {r : α} (e : ∀ k, g (k + 1) = f k) (h : Ev f r) : Ev g r := by
  obtain ⟨K, h⟩ := h
  refine ⟨K + 1, fun n hn => ?_⟩
  obtain ⟨m, rfl⟩ : ∃ m, n = m + 1 := ⟨n - 1, by omega⟩
  rw [e]; exact h m (by omega)
theorem Wp.step {ρ : Type} {P : ρ → Prop} {g f : Nat → Option ρ} (e : ∀ k, g (k + 1) = f k) (h : Wp f P) : Wp g P := by
  obtain ⟨r, h, p⟩ := h; exact ⟨r, h.step e, p⟩
theorem Wp.eqn {ρ : Type} {P : ρ → Prop} {g f : Nat → Option ρ} (e : ∀ k, g k = f k) (h : Wp f P) : Wp g P := by
  obtain ⟨r, ⟨K, h⟩, p⟩ := h; exact ⟨r, ⟨K, fun k hk => (e k).trans (h k hk)⟩, p⟩
theorem Wp.ite {ρ : Type} {P : ρ → Prop} {c : Prop} {_ : Decidable c} {a b : Nat → Option ρ} (h : c → Wp a P) (k : ¬ c → Wp b P) : Wp (fun k => if c then a k else b k) P := by
  by_cases hc : c
  · exact Wp.eqn (fun k => if_pos hc) (h hc)
  · exact Wp.eqn (fun k => if_neg hc) (k hc)
theorem Wp.itet {ρ : Type} {P : ρ → Prop} {c : Prop} {_ : Decidable c} {a b : Nat → Option ρ} (hc : c) (h : Wp a P) : Wp (fun k => if c then a k else b k) P := Wp.eqn (fun k => if_pos hc) h
theorem Wp.itef {ρ : Type} {P : ρ → Prop} {c : Prop} {_ : Decidable c} {a b : Nat → Option ρ} (hc : ¬ c) (h : Wp b P) : Wp (fun k => if c then a k else b k) P := Wp.eqn (fun k => if_neg hc) h
theorem Wp.mono {ρ : Type} {P : ρ → Prop} {g : Nat → Option ρ} {Q : ρ → Prop} (h : Wp g Q) (k : ∀ r, Q r → P r) : Wp g P := by obtain ⟨r, h, q⟩ := h; exact ⟨r, h, k r q⟩
theorem Wp.ev {ρ : Type} {g : Nat → Option ρ} {v : ρ} (h : Wp g (fun r => r = v)) : Ev g v := by obtain ⟨r, h, rfl⟩ := h; exact h
theorem Ev.wp {ρ : Type} {P : ρ → Prop} {g : Nat → Option ρ} {v : ρ} (h : Ev g v) (p : P v) : Wp g P := ⟨v, h, p⟩
theorem Ev.val {α : Type} {g : Nat → Option α} {r r' : α} (h : Ev g r) (e : r = r') : Ev g r' := e ▸ h
theorem Wp.done {g : Nat → Option Bool} (h : Wp g (fun r => r = true)) : ∃ k, g k = some true := by
  obtain ⟨r, ⟨K, h⟩, rfl⟩ := h; exact ⟨K, h K (Nat.le_refl _)⟩
theorem wrap_id {x : Int} (h0 : -9223372036854775808 ≤ x) (h1 : x ≤ 9223372036854775807) : wrap64 x = x := by
  unfold wrap64
  omega
/-- the next number (kept from omega's eyes) -/
structure Nx (n : Nat) : Prop where
  e : wrap64 ((n : Int) + 1) = (n : Int) + 1
theorem rdOf_mem {α : Type} {z : α} {l : List α} {i : Int} (h0 : 0 ≤ i) (h1 : i < (l.length : Int)) : rdOf z l i ∈ l := by
  unfold rdOf
  rw [List.getD_eq_getElem?_getD, List.getElem?_eq_getElem (by omega)]
  exact List.getElem_mem _
/-! Loops that count. -/
theorem Wp.cnt {ρ : Type} {P : ρ → Prop} {σ : Type} (n : Nat) (hl : n ≤ 1000000000) (L : Nat → Int → σ → Option ρ) (I : Nat → σ → Prop)
    (step : ∀ (i : Nat) (s : σ), i < n → Nx i → I i s → (∀ s', I (i + 1) s' → Wp (fun k => L k ((i : Int) + 1) s') P) → Wp (fun k => L k (i : Int) s) P)
    (stop : ∀ s, I n s → Wp (fun k => L k (n : Int) s) P) (s : σ) (h0 : I 0 s) : Wp (fun k => L k 0 s) P := by
  have key : ∀ (d i : Nat) (s : σ), i + d = n → I i s → Wp (fun k => L k (i : Int) s) P := by
    intro d
    induction d with
    | zero => intro i s e h; obtain rfl : i = n := by omega
              exact stop s h
    | succ d ih =>
      intro i s e h
      refine step i s (by omega) ⟨wrap_id (by omega) (by omega)⟩ h fun s' h' => ?_
      have := ih (i + 1) s' (by omega) h'
      rw [show ((i + 1 : Nat) : Int) = (i : Int) + 1 from by omega] at this
      exact this
  exact key n 0 s (by omega) h0
theorem Wp.cnt0 {ρ : Type} {P : ρ → Prop} (n : Nat) (hl : n ≤ 1000000000) (L : Nat → Int → Option ρ) (I : Nat → Prop)
    (step : ∀ (i : Nat), i < n → Nx i → I i → (I (i + 1) → Wp (fun k => L k ((i : Int) + 1)) P) → Wp (fun k => L k (i : Int)) P)
    (stop : I n → Wp (fun k => L k (n : Int)) P) (h0 : I 0) : Wp (fun k => L k 0) P :=
  Wp.cnt (σ := Unit) n hl (fun k i s => L k i) (fun i s => I i) (fun i s hi hw h ih => step i hi hw h (fun h' => ih () h')) (fun s h => stop h) () h0
theorem Wp.cnt1 {ρ σ0 : Type} {P : ρ → Prop} (n : Nat) (hl : n ≤ 1000000000) (L : Nat → Int → σ0 → Option ρ) (I : Nat → σ0 → Prop)
    (step : ∀ (i : Nat) (s0 : σ0), i < n → Nx i → I i s0 → (∀ (t0 : σ0), I (i + 1) t0 → Wp (fun k => L k ((i : Int) + 1) t0) P) → Wp (fun k => L k (i : Int) s0) P)
    (stop : ∀ (s0 : σ0), I n s0 → Wp (fun k => L k (n : Int) s0) P) (s0 : σ0) (h0 : I 0 s0) : Wp (fun k => L k 0 s0) P :=
  Wp.cnt (σ := σ0) n hl (fun k i s => L k i s) (fun i s => I i s) (fun i s hi hw h ih => step i s hi hw h (fun t0 h' => ih t0 h')) (fun s h => stop s h) s0 h0
theorem Wp.cnt2 {ρ σ0 σ1 : Type} {P : ρ → Prop} (n : Nat) (hl : n ≤ 1000000000) (L : Nat → Int → σ0 → σ1 → Option ρ) (I : Nat → σ0 → σ1 → Prop)
    (step : ∀ (i : Nat) (s0 : σ0) (s1 : σ1), i < n → Nx i → I i s0 s1 → (∀ (t0 : σ0) (t1 : σ1), I (i + 1) t0 t1 → Wp (fun k => L k ((i : Int) + 1) t0 t1) P) → Wp (fun k => L k (i : Int) s0 s1) P)
    (stop : ∀ (s0 : σ0) (s1 : σ1), I n s0 s1 → Wp (fun k => L k (n : Int) s0 s1) P) (s0 : σ0) (s1 : σ1) (h0 : I 0 s0 s1) : Wp (fun k => L k 0 s0 s1) P :=
  Wp.cnt (σ := σ0 × σ1) n hl (fun k i s => L k i s.1 s.2) (fun i s => I i s.1 s.2) (fun i s hi hw h ih => step i s.1 s.2 hi hw h (fun t0 t1 h' => ih (t0, t1) h')) (fun s h => stop s.1 s.2 h) (s0, s1) h0
theorem Wp.cnt4 {ρ σ0 σ1 σ2 σ3 : Type} {P : ρ → Prop} (n : Nat) (hl : n ≤ 1000000000) (L : Nat → Int → σ0 → σ1 → σ2 → σ3 → Option ρ) (I : Nat → σ0 → σ1 → σ2 → σ3 → Prop)
    (step : ∀ (i : Nat) (s0 : σ0) (s1 : σ1) (s2 : σ2) (s3 : σ3), i < n → Nx i → I i s0 s1 s2 s3 → (∀ (t0 : σ0) (t1 : σ1) (t2 : σ2) (t3 : σ3), I (i + 1) t0 t1 t2 t3 → Wp (fun k => L k ((i : Int) + 1) t0 t1 t2 t3) P) → Wp (fun k => L k (i : Int) s0 s1 s2 s3) P)
    (stop : ∀ (s0 : σ0) (s1 : σ1) (s2 : σ2) (s3 : σ3), I n s0 s1 s2 s3 → Wp (fun k => L k (n : Int) s0 s1 s2 s3) P) (s0 : σ0) (s1 : σ1) (s2 : σ2) (s3 : σ3) (h0 : I 0 s0 s1 s2 s3) : Wp (fun k => L k 0 s0 s1 s2 s3) P :=
  Wp.cnt (σ := σ0 × σ1 × σ2 × σ3) n hl (fun k i s => L k i s.1 s.2.1 s.2.2.1 s.2.2.2) (fun i s => I i s.1 s.2.1 s.2.2.1 s.2.2.2) (fun i s hi hw h ih => step i s.1 s.2.1 s.2.2.1 s.2.2.2 hi hw h (fun t0 t1 t2 t3 h' => ih (t0, t1, t2, t3) h')) (fun s h => stop s.1 s.2.1 s.2.2.1 s.2.2.2 h) (s0, s1, s2, s3) h0
/-- what is so, as a bool -/
noncomputable def B (p : Prop) : Bool := @decide p (Classical.propDecidable p)
theorem B_iff {p : Prop} : B p = true ↔ p := @decide_eq_true_iff p (Classical.propDecidable p)
theorem eqB {b : Bool} {p : Prop} : b = B p ↔ (b = true ↔ p) := by
  by_cases h : p
  · rw [B_iff.2 h]; simp [h]
  · have : B p = false := by rw [← Bool.not_eq_true, B_iff]; exact h
    rw [this]; simp [h]
theorem B_congr {p q : Prop} (h : p ↔ q) : B p = B q := by rw [eqB, B_iff]; exact h
theorem not_B {p : Prop} : (!B p) = B (¬ p) := by rw [eqB, Bool.not_eq_true', ← Bool.not_eq_true, B_iff]
theorem dec_B {p : Prop} {_ : Decidable p} : decide p = B p := by rw [eqB, decide_eq_true_iff]
theorem Wp.iteB {ρ : Type} {P : ρ → Prop} {p : Prop} {a b : Nat → Option ρ} (h : p → Wp a P) (k : ¬ p → Wp b P) : Wp (fun k => if B p = true then a k else b k) P := Wp.ite (fun e => h (B_iff.1 e)) (fun e => k (fun x => e (B_iff.2 x)))
theorem Wp.itetB {ρ : Type} {P : ρ → Prop} {p : Prop} {a b : Nat → Option ρ} (hc : p) (h : Wp a P) : Wp (fun k => if B p = true then a k else b k) P := Wp.itet (B_iff.2 hc) h
theorem Wp.itefB {ρ : Type} {P : ρ → Prop} {p : Prop} {a b : Nat → Option ρ} (hc : ¬ p) (h : Wp b P) : Wp (fun k => if B p = true then a k else b k) P := Wp.itef (fun e => hc (B_iff.1 e)) h
/-- all of n are so; else false -/
theorem Wp.allP {Φ : Nat → Prop} {P : Bool → Prop} (n : Nat) (hl : n ≤ 1000000000) (L : Nat → Int → Option Bool)
    (step : ∀ (i : Nat), i < n → Nx i → (Φ i → Wp (fun k => L k ((i : Int) + 1)) P) → (¬ Φ i → P false) → Wp (fun k => L k (i : Int)) P)
    (stop : (∀ i, i < n → Φ i) → Wp (fun k => L k (n : Int)) P) (bad : (¬ ∀ i, i < n → Φ i) → P false) : Wp (fun k => L k 0) P := by
  refine Wp.cnt0 n hl L (fun i => ∀ j, j < i → Φ j) (fun i hi hw h ih => step i hi hw (fun hp => ih (fun j hj => ?_)) (fun hp => bad (fun h => hp (h i hi)))) stop (fun j hj => absurd hj (Nat.not_lt_zero j))
  by_cases e : j = i
  · rw [e]; exact hp
  · exact h j (by omega)
/-- all of n are so, and then something else -/
theorem Wp.all {Φ : Nat → Prop} {Ψ : Prop} (n : Nat) (hl : n ≤ 1000000000) (L : Nat → Int → Option Bool)
    (step : ∀ (i : Nat) (P : Bool → Prop), i < n → Nx i → (Φ i → Wp (fun k => L k ((i : Int) + 1)) P) → (¬ Φ i → P false) → Wp (fun k => L k (i : Int)) P)
    (stop : (∀ i, i < n → Φ i) → Wp (fun k => L k (n : Int)) (fun r => r = B Ψ)) : Ev (fun k => L k 0) (B ((∀ i, i < n → Φ i) ∧ Ψ)) := by
  refine Wp.ev (Wp.allP n hl L (fun i hi hw => step i _ hi hw) (fun h => (stop h).mono fun r hr => ?_) (fun h => ?_))
  · rw [hr]
    exact B_congr ⟨fun x => ⟨h, x⟩, fun x => x.2⟩
  · rw [eqB]
    exact ⟨fun h => absurd h (by decide), fun x => absurd x.1 h⟩
/-- the first of n that is so; -1 -/
noncomputable def fidx (Φ : Nat → Prop) : Nat → Nat → Int
  | 0, _ => -1
  | d + 1, i => if B (Φ i) = true then (i : Int) else fidx Φ d (i + 1)
theorem fidx_spec (Φ : Nat → Prop) : ∀ d i, (fidx Φ d i = -1 ∧ ∀ j, i ≤ j → j < i + d → ¬ Φ j) ∨ (∃ j, i ≤ j ∧ j < i + d ∧ fidx Φ d i = (j : Int) ∧ Φ j ∧ ∀ z, i ≤ z → z < j → ¬ Φ z) := by
  intro d
  induction d with
  | zero => intro i; exact .inl ⟨rfl, fun j h1 h2 => by omega⟩
  | succ d ih =>
    intro i
    rw [fidx]
    by_cases h : Φ i
    · rw [if_pos (B_iff.2 h)]
      exact .inr ⟨i, by omega, by omega, rfl, h, fun z h1 h2 => by omega⟩
    · rw [if_neg (fun e => h (B_iff.1 e))]
      rcases ih (i + 1) with ⟨h1, h2⟩ | ⟨j, h1, h2, h3, h4, h5⟩
      · refine .inl ⟨h1, fun j a b => ?_⟩
        by_cases e : j = i
        · rw [e]; exact h
        · exact h2 j (by omega) (by omega)
      · refine .inr ⟨j, by omega, by omega, h3, h4, fun z a b => ?_⟩
        by_cases e : z = i
        · rw [e]; exact h
        · exact h5 z (by omega) b
theorem fidx_ge {Φ : Nat → Prop} {n : Nat} : fidx Φ n 0 ≥ 0 ↔ ∃ i, i < n ∧ Φ i := by
  rcases fidx_spec Φ n 0 with ⟨h1, h2⟩ | ⟨j, h1, h2, h3, h4, h5⟩
  · rw [h1]
    exact ⟨fun h => absurd h (by decide), fun ⟨i, a, b⟩ => absurd b (h2 i (by omega) (by omega))⟩
  · rw [h3]
    exact ⟨fun _ => ⟨j, by omega, h4⟩, fun _ => by omega⟩
theorem Wp.find {ρ : Type} {Φ : Nat → Prop} (n : Nat) (hl : n ≤ 1000000000) (L : Nat → Int → Option ρ) (ret : Int → ρ)
    (step : ∀ (i : Nat) (P : ρ → Prop), i < n → Nx i → (¬ Φ i → Wp (fun k => L k ((i : Int) + 1)) P) → (Φ i → P (ret i)) → Wp (fun k => L k (i : Int)) P)
    (stop : Wp (fun k => L k (n : Int)) (fun r => r = ret (-1))) : Ev (fun k => L k 0) (ret (fidx Φ n 0)) := by
  refine Wp.ev (Wp.cnt0 n hl L (fun i => fidx Φ n 0 = fidx Φ (n - i) i) (fun i hi hw h ih => step i _ hi hw (fun hp => ih ?_) (fun hp => ?_)) (fun h => stop.mono fun r hr => ?_) rfl)
  · rw [h, show n - i = (n - (i + 1)) + 1 from by omega, fidx, if_neg (fun e => hp (B_iff.1 e))]
  · rw [h, show n - i = (n - (i + 1)) + 1 from by omega, fidx, if_pos (B_iff.2 hp)]
  · rw [hr, h, Nat.sub_self, fidx]
/-! #### what comes to one of several results -/
def Fin_ {Y : Type} (P : Y → Prop) : Prop := ∃ L : List Y, ∀ y, P y → y ∈ L
/-- from some round on, and whatever follows, G goes on with a result of which P holds -/
def Dm {Y : Type} (G : Nat → (R : Type) → (Y → Option R) → Option R) (P : Y → Prop) : Prop :=
  Fin_ P ∧ ∃ M, ∀ k, M ≤ k → ∀ (R : Type) (K : Y → Option R) (r : R), (∀ y, P y → K y = some r) → G k R K = some r
theorem uniform {Y R : Type} {P : Y → Prop} {F : Nat → Y → Option R} {r : R} (hP : Fin_ P) (h : ∀ y, P y → ∃ M, ∀ k, M ≤ k → F k y = some r) : ∃ M, ∀ k, M ≤ k → ∀ y, P y → F k y = some r := by
  obtain ⟨L, hL⟩ := hP
  have key : ∀ L : List Y, ∃ M, ∀ k, M ≤ k → ∀ y ∈ L, P y → F k y = some r := by
    intro L
    induction L with
    | nil => exact ⟨0, fun k _ y hy => by cases hy⟩
    | cons a L ih =>
      obtain ⟨M, hM⟩ := ih
      by_cases ha : P a
      · obtain ⟨N, hN⟩ := h a ha
        refine ⟨max M N, fun k hk y hy py => ?_⟩
        rcases List.mem_cons.1 hy with rfl | hy
        · exact hN k (by omega)
        · exact hM k (by omega) y hy py
      · refine ⟨M, fun k hk y hy py => ?_⟩
        rcases List.mem_cons.1 hy with rfl | hy
        · exact absurd py ha
        · exact hM k hk y hy py
  obtain ⟨M, hM⟩ := key L
  exact ⟨M, fun k hk y py => hM k hk y (hL y py) py⟩
theorem Wp.rel {Y ρ : Type} {P : Y → Prop} {G : Nat → (R : Type) → (Y → Option R) → Option R} {F : Y → Nat → Option ρ} {r : ρ} (h : Dm G P) (k : ∀ y, P y → Wp (fun n => F y n) (fun x => x = r)) : Wp (fun n => G n ρ (fun y => F y n)) (fun x => x = r) := by
  obtain ⟨hP, M, hM⟩ := h
  obtain ⟨N, hN⟩ := uniform (F := fun n y => F y n) hP (fun y py => (k y py).ev)
  exact ⟨r, ⟨max M N, fun n hn => hM n (by omega) _ _ r (fun y py => hN n (by omega) y py)⟩, rfl⟩
theorem Dm.mono {Y : Type} {G : Nat → (R : Type) → (Y → Option R) → Option R} {P Q : Y → Prop} (h : Dm G P) (hQ : Fin_ Q) (k : ∀ y, P y → Q y) : Dm G Q := by
  obtain ⟨_, M, hM⟩ := h
  exact ⟨hQ, M, fun n hn R K r hK => hM n hn R K r (fun y py => hK y (k y py))⟩
theorem Dm.ret {Y : Type} {P : Y → Prop} (hP : Fin_ P) {y : Y} (h : P y) : Dm (fun _ _ K => K y) P := ⟨hP, 0, fun _ _ _ _ _ hK => hK y h⟩
theorem Dm.bindE {α Y : Type} {P : Y → Prop} {g : Nat → Option α} {G : α → Nat → (R : Type) → (Y → Option R) → Option R} {v : α} (h : Ev g v) (k : Dm (G v) P) : Dm (fun n R K => (g n).bind fun x => G x n R K) P := by
  obtain ⟨M, hM⟩ := h
  obtain ⟨hP, N, hN⟩ := k
  refine ⟨hP, max M N, fun n hn R K r hK => ?_⟩
  show (g n).bind _ = _
  rw [hM n (by omega)]
  exact hN n (by omega) R K r hK
theorem Dm.bind {α Y : Type} {P : Y → Prop} {Q : α → Prop} {g : Nat → Option α} {G : α → Nat → (R : Type) → (Y → Option R) → Option R} (h : Wp g Q) (k : ∀ v, Q v → Dm (G v) P) : Dm (fun n R K => (g n).bind fun x => G x n R K) P := by
  obtain ⟨v, h, q⟩ := h; exact Dm.bindE h (k v q)
theorem Dm.rel {Y Z : Type} {P : Y → Prop} {Q : Z → Prop} {G : Nat → (R : Type) → (Y → Option R) → Option R} {F : Y → Nat → (R : Type) → (Z → Option R) → Option R} (hQ : Fin_ Q) (h : Dm G P) (k : ∀ y, P y → Dm (F y) Q) : Dm (fun n R K => G n R (fun y => F y n R K)) Q := by
  obtain ⟨hP, M, hM⟩ := h
  have : ∃ N, ∀ n, N ≤ n → ∀ y, P y → ∀ (R : Type) (K : Z → Option R) (r : R), (∀ z, Q z → K z = some r) → F y n R K = some r := by
    have := uniform (R := Unit) (F := fun n y => @ite _ (∀ (R : Type) (K : Z → Option R) (r : R), (∀ z, Q z → K z = some r) → F y n R K = some r) (Classical.propDecidable _) (some ()) none) (r := ()) hP (fun y py => by
      obtain ⟨_, N, hN⟩ := k y py
      exact ⟨N, fun n hn => if_pos (fun R K r hK => hN n hn R K r hK)⟩)
    obtain ⟨N, hN⟩ := this
    refine ⟨N, fun n hn y py => ?_⟩
    have := hN n hn y py
    by_cases hc : (∀ (R : Type) (K : Z → Option R) (r : R), (∀ z, Q z → K z = some r) → F y n R K = some r)
    · exact hc
    · rw [if_neg hc] at this; cases this
  obtain ⟨N, hN⟩ := this
  exact ⟨hQ, max M N, fun n hn R K r hK => hM n (by omega) R _ r (fun y py => hN n (by omega) y py R K r hK)⟩
theorem Dm.ite {Y : Type} {P : Y → Prop} {c : Prop} {_ : Decidable c} {a b : Nat → (R : Type) → (Y → Option R) → Option R} (h : c → Dm a P) (k : ¬ c → Dm b P) : Dm (fun n R K => if c then a n R K else b n R K) P := by
  by_cases hc : c
  · have := h hc; simp only [if_pos hc]; exact this
  · have := k hc; simp only [if_neg hc]; exact this
theorem Dm.itet {Y : Type} {P : Y → Prop} {c : Prop} {_ : Decidable c} {a b : Nat → (R : Type) → (Y → Option R) → Option R} (hc : c) (h : Dm a P) : Dm (fun n R K => if c then a n R K else b n R K) P := by simp only [if_pos hc]; exact h
theorem Dm.itef {Y : Type} {P : Y → Prop} {c : Prop} {_ : Decidable c} {a b : Nat → (R : Type) → (Y → Option R) → Option R} (hc : ¬ c) (h : Dm b P) : Dm (fun n R K => if c then a n R K else b n R K) P := by simp only [if_neg hc]; exact h
theorem relB_dm {Y : Type} {P : Y → Prop} (hP : Fin_ P) (hn : ∃ y, P y) : Dm (fun _ R K => relB P K) P := by
  refine ⟨hP, 0, fun n _ R K r hK => ?_⟩
  have h : ∃ r, ∀ y, P y → K y = some r := ⟨r, hK⟩
  show relB P K = some r
  unfold relB
  rw [dif_pos h]
  obtain ⟨y, py⟩ := hn
  rw [← h.choose_spec y py]
  exact hK y py
def ordI : Ordering → Int
  | .lt => -1
  | .eq => 0
  | .gt => 1
/-! #### signatures -/
theorem impl_from_ev (a b c : Int) : Ev (fun _ => impl_from.f a b c) (B (b ≤ a ∧ a ≤ c)) := by
  refine Wp.ev ?_
  unfold impl_from.f
  repeat' (first|(with_reducible refine Wp.itetB ?c_ ?_;(case c_=>first|exact Int.natCast_nonneg _|omega|assumption))|(with_reducible refine Wp.itefB ?c_ ?_;(case c_=>first|exact Int.natCast_nonneg _|omega|assumption))|(with_reducible refine Wp.itet ?c_ ?_;(case c_=>first|exact Int.natCast_nonneg _|omega|assumption))|(with_reducible refine Wp.itef ?c_ ?_;(case c_=>first|exact Int.natCast_nonneg _|omega|assumption))|(simp only [decide_eq_true_eq])|(with_reducible refine Wp.ret ?_)|(with_reducible refine Wp.itet ?c_ ?_;(case c_=>simp only [List.length_append, List.length_cons, List.length_nil, List.length_take, List.length_drop, List.length_replicate]; omega))|(with_reducible refine Wp.iteB (fun hc => ?_) (fun hc => ?_))|(with_reducible refine Wp.ite (fun hc => ?_) (fun hc => ?_)))
  all_goals (rw [eqB]; simp; omega)
theorem spec_l1In_ev (a b c : Int) : Ev (fun _ => spec_l1In.f a b c) (B (b ≤ a ∧ a ≤ c)) := by
  refine Wp.ev ?_
  unfold spec_l1In.f
  repeat' (first|(with_reducible refine Wp.itetB ?c_ ?_;(case c_=>first|exact Int.natCast_nonneg _|omega|assumption))|(with_reducible refine Wp.itefB ?c_ ?_;(case c_=>first|exact Int.natCast_nonneg _|omega|assumption))|(with_reducible refine Wp.itet ?c_ ?_;(case c_=>first|exact Int.natCast_nonneg _|omega|assumption))|(with_reducible refine Wp.itef ?c_ ?_;(case c_=>first|exact Int.natCast_nonneg _|omega|assumption))|(simp only [decide_eq_true_eq])|(with_reducible refine Wp.ret ?_)|(with_reducible refine Wp.itet ?c_ ?_;(case c_=>simp only [List.length_append, List.length_cons, List.length_nil, List.length_take, List.length_drop, List.length_replicate]; omega))|(with_reducible refine Wp.iteB (fun hc => ?_) (fun hc => ?_))|(with_reducible refine Wp.ite (fun hc => ?_) (fun hc => ?_)))
  all_goals (rw [eqB]; simp; omega)
theorem impl_isSmall_ev (a : Int) : Ev (fun _ => impl_isSmall.f a) (B (97 ≤ a ∧ a ≤ 122)) := by
  refine Wp.ev ?_
  unfold impl_isSmall.f
  repeat' (first|(with_reducible refine Wp.itetB ?c_ ?_;(case c_=>first|exact Int.natCast_nonneg _|omega|assumption))|(with_reducible refine Wp.itefB ?c_ ?_;(case c_=>first|exact Int.natCast_nonneg _|omega|assumption))|(with_reducible refine Wp.itet ?c_ ?_;(case c_=>first|exact Int.natCast_nonneg _|omega|assumption))|(with_reducible refine Wp.itef ?c_ ?_;(case c_=>first|exact Int.natCast_nonneg _|omega|assumption))|(simp only [decide_eq_true_eq])|(with_reducible refine Wp.ret ?_)|(with_reducible refine Wp.itet ?c_ ?_;(case c_=>simp only [List.length_append, List.length_cons, List.length_nil, List.length_take, List.length_drop, List.length_replicate]; omega))|(with_reducible refine Wp.iteB (fun hc => ?_) (fun hc => ?_))|(with_reducible refine Wp.ite (fun hc => ?_) (fun hc => ?_)))
  all_goals (rw [eqB]; simp; omega)
theorem impl_isDigit_ev (a : Int) : Ev (fun _ => impl_isDigit.f a) (B (48 ≤ a ∧ a ≤ 57)) := by
  refine Wp.ev ?_
  unfold impl_isDigit.f
  repeat' (first|(with_reducible refine Wp.itetB ?c_ ?_;(case c_=>first|exact Int.natCast_nonneg _|omega|assumption))|(with_reducible refine Wp.itefB ?c_ ?_;(case c_=>first|exact Int.natCast_nonneg _|omega|assumption))|(with_reducible refine Wp.itet ?c_ ?_;(case c_=>first|exact Int.natCast_nonneg _|omega|assumption))|(with_reducible refine Wp.itef ?c_ ?_;(case c_=>first|exact Int.natCast_nonneg _|omega|assumption))|(simp only [decide_eq_true_eq])|(with_reducible refine Wp.ret ?_)|(with_reducible refine Wp.itet ?c_ ?_;(case c_=>simp only [List.length_append, List.length_cons, List.length_nil, List.length_take, List.length_drop, List.length_replicate]; omega))|(with_reducible refine Wp.iteB (fun hc => ?_) (fun hc => ?_))|(with_reducible refine Wp.ite (fun hc => ?_) (fun hc => ?_)))
  all_goals (rw [eqB]; simp; omega)
def ChOk (s : ByteArray) (i : Nat) : Prop := (97 ≤ bt s i ∧ bt s i ≤ 122) ∨ (0 < i ∧ 48 ≤ bt s i ∧ bt s i ≤ 57)
def NameOk (s : ByteArray) : Prop := (∀ i, i < s.size → ChOk s i) ∧ (1 ≤ (s.size : Int) ∧ (s.size : Int) ≤ 8)
theorem spec_NameOk_ev (s : ByteArray) (h : s.size ≤ 1000000000) : Ev (fun k => spec_NameOk.f k s) (B (NameOk s)) := by
  unfold spec_NameOk.f
  refine Wp.all s.size h (fun k i => spec_NameOk.l0 k s i) ?_ ?_
  · intro i P hi hw hT hF
    refine Wp.step (fun k => by rw [spec_NameOk.l0]) ?_
    simp only [hw.e]
    repeat' (first|(with_reducible refine Wp.itetB ?c_ ?_;(case c_=>first|exact Int.natCast_nonneg _|omega|assumption))|(with_reducible refine Wp.itefB ?c_ ?_;(case c_=>first|exact Int.natCast_nonneg _|omega|assumption))|(with_reducible refine Wp.itet ?c_ ?_;(case c_=>first|exact Int.natCast_nonneg _|omega|assumption))|(with_reducible refine Wp.itef ?c_ ?_;(case c_=>first|exact Int.natCast_nonneg _|omega|assumption))|(simp only [decide_eq_true_eq])|(with_reducible refine Wp.ret ?_)|(with_reducible refine Wp.itet ?c_ ?_;(case c_=>simp only [List.length_append, List.length_cons, List.length_nil, List.length_take, List.length_drop, List.length_replicate]; omega))|(with_reducible refine Wp.iteB (fun hc => ?_) (fun hc => ?_))|(with_reducible refine Wp.ite (fun hc => ?_) (fun hc => ?_)))
    all_goals first | exact hT (by unfold ChOk; omega) | exact hF (by unfold ChOk; omega)
  · intro _
    refine Wp.step (fun k => by rw [spec_NameOk.l0]) ?_
    repeat' (first|(with_reducible refine Wp.itetB ?c_ ?_;(case c_=>first|exact Int.natCast_nonneg _|omega|assumption))|(with_reducible refine Wp.itefB ?c_ ?_;(case c_=>first|exact Int.natCast_nonneg _|omega|assumption))|(with_reducible refine Wp.itet ?c_ ?_;(case c_=>first|exact Int.natCast_nonneg _|omega|assumption))|(with_reducible refine Wp.itef ?c_ ?_;(case c_=>first|exact Int.natCast_nonneg _|omega|assumption))|(with_reducible refine Wp.bindE (spec_l1In_ev _ _ _) ?_)|(simp only [decide_eq_true_eq])|(with_reducible refine Wp.ret ?_)|(with_reducible refine Wp.itet ?c_ ?_;(case c_=>simp only [List.length_append, List.length_cons, List.length_nil, List.length_take, List.length_drop, List.length_replicate]; omega))|(with_reducible refine Wp.iteB (fun hc => ?_) (fun hc => ?_))|(with_reducible refine Wp.ite (fun hc => ?_) (fun hc => ?_)))
theorem impl_NameOk_ev (s : ByteArray) (h : s.size ≤ 1000000000) : Ev (fun k => impl_NameOk.f k s) (B (NameOk s)) := by
  unfold impl_NameOk.f
  refine (Wp.all (Φ := fun i => (97 ≤ bt s i ∧ bt s i ≤ 122) ∨ (48 ≤ bt s i ∧ bt s i ≤ 57)) (Ψ := (1 ≤ (s.size : Int) ∧ (s.size : Int) ≤ 8) ∧ (97 ≤ bt s 0 ∧ bt s 0 ≤ 122)) s.size h (fun k i => impl_NameOk.l0 k s s.size i) ?_ ?_).val (B_congr ?_)
  · intro i P hi hw hT hF
    refine Wp.step (fun k => by rw [impl_NameOk.l0]) ?_
    simp only [hw.e]
    repeat' (first|(with_reducible refine Wp.itetB ?c_ ?_;(case c_=>first|exact Int.natCast_nonneg _|omega|assumption))|(with_reducible refine Wp.itefB ?c_ ?_;(case c_=>first|exact Int.natCast_nonneg _|omega|assumption))|(with_reducible refine Wp.itet ?c_ ?_;(case c_=>first|exact Int.natCast_nonneg _|omega|assumption))|(with_reducible refine Wp.itef ?c_ ?_;(case c_=>first|exact Int.natCast_nonneg _|omega|assumption))|(with_reducible refine Wp.bindE (impl_isSmall_ev _) ?_)|(with_reducible refine Wp.bindE (impl_isDigit_ev _) ?_)|(simp only [decide_eq_true_eq])|(with_reducible refine Wp.ret ?_)|(with_reducible refine Wp.itet ?c_ ?_;(case c_=>simp only [List.length_append, List.length_cons, List.length_nil, List.length_take, List.length_drop, List.length_replicate]; omega))|(with_reducible refine Wp.iteB (fun hc => ?_) (fun hc => ?_))|(with_reducible refine Wp.ite (fun hc => ?_) (fun hc => ?_)))
    all_goals first | exact hT (by omega) | exact hF (by omega)
  · intro _
    refine Wp.step (fun k => by rw [impl_NameOk.l0]) ?_
    repeat' (first|(with_reducible refine Wp.itetB ?c_ ?_;(case c_=>first|exact Int.natCast_nonneg _|omega|assumption))|(with_reducible refine Wp.itefB ?c_ ?_;(case c_=>first|exact Int.natCast_nonneg _|omega|assumption))|(with_reducible refine Wp.itet ?c_ ?_;(case c_=>first|exact Int.natCast_nonneg _|omega|assumption))|(with_reducible refine Wp.itef ?c_ ?_;(case c_=>first|exact Int.natCast_nonneg _|omega|assumption))|(with_reducible refine Wp.bindE (impl_from_ev _ _ _) ?_)|(with_reducible refine Wp.bindE (impl_isSmall_ev _) ?_)|(simp only [decide_eq_true_eq])|(with_reducible refine Wp.ret ?_)|(with_reducible refine Wp.itet ?c_ ?_;(case c_=>simp only [List.length_append, List.length_cons, List.length_nil, List.length_take, List.length_drop, List.length_replicate]; omega))|(with_reducible refine Wp.iteB (fun hc => ?_) (fun hc => ?_))|(with_reducible refine Wp.ite (fun hc => ?_) (fun hc => ?_)))
    all_goals (rw [eqB]; simp [B_iff]; try omega)
  · unfold NameOk ChOk
    constructor
    · rintro ⟨h1, h2, h3⟩
      refine ⟨fun i hi => ?_, h2⟩
      by_cases e : i = 0
      · rw [e]; exact .inl h3
      · rcases h1 i hi with h | h
        · exact .inl h
        · exact .inr ⟨by omega, h⟩
    · rintro ⟨h1, h2⟩
      refine ⟨fun i hi => ?_, h2, ?_⟩
      · rcases h1 i hi with h | h
        · exact .inl h
        · exact .inr h.2
      · rcases h1 0 (by omega) with h | h
        · exact h
        · omega
noncomputable def symOf (s : List I_Sym) (nm : ByteArray) : Int := fidx (fun i => (rd_I_Sym s i).f0 = nm) s.length 0
theorem spec_SymOf_ev (s : List I_Sym) (nm : ByteArray) (h : s.length ≤ 1000000000) : Ev (fun k => spec_SymOf.f k s nm) (symOf s nm) := by
  unfold spec_SymOf.f
  refine Wp.find s.length h (fun k i => spec_SymOf.l0 k s nm i) (fun i => i) ?_ ?_
  · intro i P hi hw hT hF
    refine Wp.step (fun k => by rw [spec_SymOf.l0]) ?_
    simp only [hw.e]
    repeat' (first|(with_reducible refine Wp.itetB ?c_ ?_;(case c_=>first|exact Int.natCast_nonneg _|omega|assumption))|(with_reducible refine Wp.itefB ?c_ ?_;(case c_=>first|exact Int.natCast_nonneg _|omega|assumption))|(with_reducible refine Wp.itet ?c_ ?_;(case c_=>first|exact Int.natCast_nonneg _|omega|assumption))|(with_reducible refine Wp.itef ?c_ ?_;(case c_=>first|exact Int.natCast_nonneg _|omega|assumption))|(simp only [decide_eq_true_eq])|(with_reducible refine Wp.ret ?_)|(with_reducible refine Wp.itet ?c_ ?_;(case c_=>simp only [List.length_append, List.length_cons, List.length_nil, List.length_take, List.length_drop, List.length_replicate]; omega))|(with_reducible refine Wp.iteB (fun hc => ?_) (fun hc => ?_))|(with_reducible refine Wp.ite (fun hc => ?_) (fun hc => ?_)))
    all_goals first | exact hF (by assumption) | exact hT (by assumption)
  · refine Wp.step (fun k => by rw [spec_SymOf.l0]) ?_
    repeat' (first|(with_reducible refine Wp.itetB ?c_ ?_;(case c_=>first|exact Int.natCast_nonneg _|omega|assumption))|(with_reducible refine Wp.itefB ?c_ ?_;(case c_=>first|exact Int.natCast_nonneg _|omega|assumption))|(with_reducible refine Wp.itet ?c_ ?_;(case c_=>first|exact Int.natCast_nonneg _|omega|assumption))|(with_reducible refine Wp.itef ?c_ ?_;(case c_=>first|exact Int.natCast_nonneg _|omega|assumption))|(simp only [decide_eq_true_eq])|(with_reducible refine Wp.ret ?_)|(with_reducible refine Wp.itet ?c_ ?_;(case c_=>simp only [List.length_append, List.length_cons, List.length_nil, List.length_take, List.length_drop, List.length_replicate]; omega))|(with_reducible refine Wp.iteB (fun hc => ?_) (fun hc => ?_))|(with_reducible refine Wp.ite (fun hc => ?_) (fun hc => ?_)))
    all_goals rfl
theorem impl_SymOf_ev (s : List I_Sym) (nm : ByteArray) (h : s.length ≤ 1000000000) : Ev (fun k => impl_SymOf.f k s nm) (symOf s nm) := by
  have key : Ev (fun k => slices_IndexFunc_impl_Sym_impl_Sym__impl_SymOf_1.f k s nm) (symOf s nm, nm) := by
    unfold slices_IndexFunc_impl_Sym_impl_Sym__impl_SymOf_1.f
    refine Wp.find s.length h (fun k i => slices_IndexFunc_impl_Sym_impl_Sym__impl_SymOf_1.l0 k s s.length i nm) (fun i => (i, nm)) ?_ ?_
    · intro i P hi hw hT hF
      refine Wp.step (fun k => by rw [slices_IndexFunc_impl_Sym_impl_Sym__impl_SymOf_1.l0]) ?_
      simp only [hw.e, impl_SymOf_1_v2.f, Option.bind_some]
      repeat' (first|(with_reducible refine Wp.itetB ?c_ ?_;(case c_=>first|exact Int.natCast_nonneg _|omega|assumption))|(with_reducible refine Wp.itefB ?c_ ?_;(case c_=>first|exact Int.natCast_nonneg _|omega|assumption))|(with_reducible refine Wp.itet ?c_ ?_;(case c_=>first|exact Int.natCast_nonneg _|omega|assumption))|(with_reducible refine Wp.itef ?c_ ?_;(case c_=>first|exact Int.natCast_nonneg _|omega|assumption))|(simp only [decide_eq_true_eq])|(with_reducible refine Wp.ret ?_)|(with_reducible refine Wp.itet ?c_ ?_;(case c_=>simp only [List.length_append, List.length_cons, List.length_nil, List.length_take, List.length_drop, List.length_replicate]; omega))|(with_reducible refine Wp.iteB (fun hc => ?_) (fun hc => ?_))|(with_reducible refine Wp.ite (fun hc => ?_) (fun hc => ?_)))
      all_goals first | exact hF (by assumption) | exact hT (by assumption)
    · refine Wp.step (fun k => by rw [slices_IndexFunc_impl_Sym_impl_Sym__impl_SymOf_1.l0]) ?_
      repeat' (first|(with_reducible refine Wp.itetB ?c_ ?_;(case c_=>first|exact Int.natCast_nonneg _|omega|assumption))|(with_reducible refine Wp.itefB ?c_ ?_;(case c_=>first|exact Int.natCast_nonneg _|omega|assumption))|(with_reducible refine Wp.itet ?c_ ?_;(case c_=>first|exact Int.natCast_nonneg _|omega|assumption))|(with_reducible refine Wp.itef ?c_ ?_;(case c_=>first|exact Int.natCast_nonneg _|omega|assumption))|(simp only [decide_eq_true_eq])|(with_reducible refine Wp.ret ?_)|(with_reducible refine Wp.itet ?c_ ?_;(case c_=>simp only [List.length_append, List.length_cons, List.length_nil, List.length_take, List.length_drop, List.length_replicate]; omega))|(with_reducible refine Wp.iteB (fun hc => ?_) (fun hc => ?_))|(with_reducible refine Wp.ite (fun hc => ?_) (fun hc => ?_)))
      all_goals rfl
  unfold impl_SymOf.f
  exact key.bind Ev.ret
def SymRow (s : List I_Sym) (i : Nat) : Prop := NameOk (rd_I_Sym s i).f0 ∧ symOf s (rd_I_Sym s i).f0 = (i : Int) ∧ (0 ≤ (rd_I_Sym s i).f1 ∧ (rd_I_Sym s i).f1 ≤ 3) ∧ ((rd_I_Sym s i).f2 = true → (rd_I_Sym s i).f1 = 2)
def SigOk (s : List I_Sym) : Prop := (∀ i, i < s.length → SymRow s i) ∧ (1 ≤ (s.length : Int) ∧ (s.length : Int) ≤ 8) ∧ (rd_I_Sym s 0).f0 = ⟨#[116, 116]⟩ ∧ (rd_I_Sym s 0).f1 = 0
/-- all names are short -/
def Names (s : List I_Sym) : Prop := s.length ≤ 1000000000 ∧ ∀ x ∈ s, x.f0.size ≤ 1000000000
theorem rdSym_mem {s : List I_Sym} {i : Int} (h0 : 0 ≤ i) (h1 : i < (s.length : Int)) : rd_I_Sym s i ∈ s := rdOf_mem (z := zI_Sym) h0 h1
theorem impl_SigOk_ev (s : List I_Sym) (h : Names s) : Ev (fun k => impl_SigOk.f k s) (B (SigOk s)) := by
  unfold impl_SigOk.f
  refine Wp.all s.length h.1 (fun k i => impl_SigOk.l0 k s s s.length i) ?_ ?_
  · intro i P hi hw hT hF
    refine Wp.step (fun k => by rw [impl_SigOk.l0]) ?_
    have hl := h.1
    have hm := h.2 _ (rdSym_mem (s := s) (i := i) (by omega) (by omega))
    simp only [hw.e]
    repeat' (first|(with_reducible refine Wp.itetB ?c_ ?_;(case c_=>first|exact Int.natCast_nonneg _|omega|assumption))|(with_reducible refine Wp.itefB ?c_ ?_;(case c_=>first|exact Int.natCast_nonneg _|omega|assumption))|(with_reducible refine Wp.itet ?c_ ?_;(case c_=>first|exact Int.natCast_nonneg _|omega|assumption))|(with_reducible refine Wp.itef ?c_ ?_;(case c_=>first|exact Int.natCast_nonneg _|omega|assumption))|(with_reducible refine Wp.bindE (impl_NameOk_ev _ hm) ?_)|(with_reducible refine Wp.bindE (impl_SymOf_ev _ _ hl) ?_)|(with_reducible refine Wp.bindE (impl_from_ev _ _ _) ?_)|(simp only [decide_eq_true_eq])|(with_reducible refine Wp.ret ?_)|(with_reducible refine Wp.itet ?c_ ?_;(case c_=>simp only [List.length_append, List.length_cons, List.length_nil, List.length_take, List.length_drop, List.length_replicate]; omega))|(with_reducible refine Wp.iteB (fun hc => ?_) (fun hc => ?_))|(with_reducible refine Wp.ite (fun hc => ?_) (fun hc => ?_)))
    all_goals first | exact hT (by unfold SymRow; grind) | exact hF (by unfold SymRow; grind)
  · intro hall
    refine Wp.step (fun k => by rw [impl_SigOk.l0]) ?_
    repeat' (first|(with_reducible refine Wp.itetB ?c_ ?_;(case c_=>first|exact Int.natCast_nonneg _|omega|assumption))|(with_reducible refine Wp.itefB ?c_ ?_;(case c_=>first|exact Int.natCast_nonneg _|omega|assumption))|(with_reducible refine Wp.itet ?c_ ?_;(case c_=>first|exact Int.natCast_nonneg _|omega|assumption))|(with_reducible refine Wp.itef ?c_ ?_;(case c_=>first|exact Int.natCast_nonneg _|omega|assumption))|(with_reducible refine Wp.bindE (impl_from_ev _ _ _) ?_)|(simp only [decide_eq_true_eq])|(with_reducible refine Wp.ret ?_)|(with_reducible refine Wp.itet ?c_ ?_;(case c_=>simp only [List.length_append, List.length_cons, List.length_nil, List.length_take, List.length_drop, List.length_replicate]; omega))|(with_reducible refine Wp.iteB (fun hc => ?_) (fun hc => ?_))|(with_reducible refine Wp.ite (fun hc => ?_) (fun hc => ?_)))
    all_goals (rw [eqB]; grind)
theorem spec_SigOk_ev (s : List I_Sym) (h : Names s) : Ev (fun k => spec_SigOk.f k s) (B (SigOk s)) := by
  unfold spec_SigOk.f
  refine Wp.all s.length h.1 (fun k i => spec_SigOk.l0 k s i) ?_ ?_
  · intro i P hi hw hT hF
    refine Wp.step (fun k => by rw [spec_SigOk.l0]) ?_
    have hl := h.1
    have hm := h.2 _ (rdSym_mem (s := s) (i := i) (by omega) (by omega))
    simp only [hw.e]
    repeat' (first|(with_reducible refine Wp.itetB ?c_ ?_;(case c_=>first|exact Int.natCast_nonneg _|omega|assumption))|(with_reducible refine Wp.itefB ?c_ ?_;(case c_=>first|exact Int.natCast_nonneg _|omega|assumption))|(with_reducible refine Wp.itet ?c_ ?_;(case c_=>first|exact Int.natCast_nonneg _|omega|assumption))|(with_reducible refine Wp.itef ?c_ ?_;(case c_=>first|exact Int.natCast_nonneg _|omega|assumption))|(with_reducible refine Wp.bindE (spec_NameOk_ev _ hm) ?_)|(with_reducible refine Wp.bindE (spec_SymOf_ev _ _ hl) ?_)|(with_reducible refine Wp.bindE (spec_l1In_ev _ _ _) ?_)|(simp only [decide_eq_true_eq])|(with_reducible refine Wp.ret ?_)|(with_reducible refine Wp.itet ?c_ ?_;(case c_=>simp only [List.length_append, List.length_cons, List.length_nil, List.length_take, List.length_drop, List.length_replicate]; omega))|(with_reducible refine Wp.iteB (fun hc => ?_) (fun hc => ?_))|(with_reducible refine Wp.ite (fun hc => ?_) (fun hc => ?_)))
    all_goals first | exact hT (by unfold SymRow; grind) | exact hF (by unfold SymRow; grind)
  · intro hall
    refine Wp.step (fun k => by rw [spec_SigOk.l0]) ?_
    repeat' (first|(with_reducible refine Wp.itetB ?c_ ?_;(case c_=>first|exact Int.natCast_nonneg _|omega|assumption))|(with_reducible refine Wp.itefB ?c_ ?_;(case c_=>first|exact Int.natCast_nonneg _|omega|assumption))|(with_reducible refine Wp.itet ?c_ ?_;(case c_=>first|exact Int.natCast_nonneg _|omega|assumption))|(with_reducible refine Wp.itef ?c_ ?_;(case c_=>first|exact Int.natCast_nonneg _|omega|assumption))|(with_reducible refine Wp.bindE (spec_l1In_ev _ _ _) ?_)|(simp only [decide_eq_true_eq])|(with_reducible refine Wp.ret ?_)|(with_reducible refine Wp.itet ?c_ ?_;(case c_=>simp only [List.length_append, List.length_cons, List.length_nil, List.length_take, List.length_drop, List.length_replicate]; omega))|(with_reducible refine Wp.iteB (fun hc => ?_) (fun hc => ?_))|(with_reducible refine Wp.ite (fun hc => ?_) (fun hc => ?_)))
    · have h0 := (hall 0 (by omega)).2.2.2
      rw [eqB]
      simp only [Bool.and_eq_true, decide_eq_true_eq, Bool.and_true]
      constructor
      · rintro ⟨a, b, c⟩; exact ⟨by assumption, a, b⟩
      · rintro ⟨a, b, c⟩
        refine ⟨b, c, ?_⟩
        rw [Bool.eq_false_iff]
        intro e
        have := h0 e
        have e0 : (rd_I_Sym s ((0 : Nat) : Int)).f1 = 0 := c
        omega
    · rw [eqB]; grind
/-! #### worlds -/
theorem z4 {z : Nat} (h : 1 ≤ z ∧ z ≤ 4) : z = 1 ∨ z = 2 ∨ z = 3 ∨ z = 4 := by omega
theorem impl_placesOf_ev (z : Nat) (hz : 1 ≤ z ∧ z ≤ 4) (a : Int) (ha : 0 ≤ a ∧ a ≤ 3) : Ev (fun k => impl_placesOf.f k z a) ((z ^ a.toNat : Nat) : Int) := by
  obtain ⟨a, rfl⟩ : ∃ n : Nat, a = n := ⟨a.toNat, by omega⟩
  unfold impl_placesOf.f
  refine Wp.ev (Wp.cnt1 a (by omega) (fun k i s => impl_placesOf.l0 k z s a i) (fun i s => s = ((z ^ i : Nat) : Int)) ?_ ?_ 1 rfl)
  · intro i s hi hw hI ih
    refine Wp.step (fun k => by rw [impl_placesOf.l0]) ?_
    have hm : wrap64 (s * z) = ((z ^ (i + 1) : Nat) : Int) := by
      subst hI
      have : i = 0 ∨ i = 1 ∨ i = 2 := by omega
      rcases z4 hz with rfl | rfl | rfl | rfl <;> rcases this with rfl | rfl | rfl <;> decide +kernel
    simp only [hw.e, hm]
    repeat' (first|(with_reducible refine Wp.itetB ?c_ ?_;(case c_=>first|exact Int.natCast_nonneg _|omega|assumption))|(with_reducible refine Wp.itefB ?c_ ?_;(case c_=>first|exact Int.natCast_nonneg _|omega|assumption))|(with_reducible refine Wp.itet ?c_ ?_;(case c_=>first|exact Int.natCast_nonneg _|omega|assumption))|(with_reducible refine Wp.itef ?c_ ?_;(case c_=>first|exact Int.natCast_nonneg _|omega|assumption))|(exact ih _ rfl)|(simp only [decide_eq_true_eq])|(with_reducible refine Wp.ret ?_)|(with_reducible refine Wp.itet ?c_ ?_;(case c_=>simp only [List.length_append, List.length_cons, List.length_nil, List.length_take, List.length_drop, List.length_replicate]; omega))|(with_reducible refine Wp.iteB (fun hc => ?_) (fun hc => ?_))|(with_reducible refine Wp.ite (fun hc => ?_) (fun hc => ?_)))
  · intro s hI
    refine Wp.step (fun k => by rw [impl_placesOf.l0]) ?_
    repeat' (first|(with_reducible refine Wp.itetB ?c_ ?_;(case c_=>first|exact Int.natCast_nonneg _|omega|assumption))|(with_reducible refine Wp.itefB ?c_ ?_;(case c_=>first|exact Int.natCast_nonneg _|omega|assumption))|(with_reducible refine Wp.itet ?c_ ?_;(case c_=>first|exact Int.natCast_nonneg _|omega|assumption))|(with_reducible refine Wp.itef ?c_ ?_;(case c_=>first|exact Int.natCast_nonneg _|omega|assumption))|(simp only [decide_eq_true_eq])|(with_reducible refine Wp.ret ?_)|(with_reducible refine Wp.itet ?c_ ?_;(case c_=>simp only [List.length_append, List.length_cons, List.length_nil, List.length_take, List.length_drop, List.length_replicate]; omega))|(with_reducible refine Wp.iteB (fun hc => ?_) (fun hc => ?_))|(with_reducible refine Wp.ite (fun hc => ?_) (fun hc => ?_)))
    simpa using hI
def InR (z : Nat) (t : List Int) : Prop := ∀ x ∈ t, 0 ≤ x ∧ x < (z : Int)
def opw (z : Int) (t : List Int) (a b : Int) : Int := rd t (a + z * b)
def Sq (z : Nat) (t : List Int) : Prop := (1 ≤ z ∧ z ≤ 4) ∧ t.length = z * z ∧ InR z t
theorem rd_mem {t : List Int} {i : Int} (h0 : 0 ≤ i) (h1 : i < (t.length : Int)) : rd t i ∈ t := rdOf_mem (z := 0) h0 h1
theorem opidx {z : Nat} {t : List Int} (h : Sq z t) {a b : Int} (ha : 0 ≤ a ∧ a < z) (hb : 0 ≤ b ∧ b < z) : wrap64 (z * b) = z * b ∧ wrap64 (a + z * b) = a + z * b ∧ 0 ≤ a + z * b ∧ a + z * b < (t.length : Int) := by
  obtain ⟨hz, hl, _⟩ := h
  rw [hl]
  rcases z4 hz with rfl | rfl | rfl | rfl <;> refine ⟨wrap_id (by omega) (by omega), wrap_id (by omega) (by omega), by omega, by omega⟩
theorem opw_rng {z : Nat} {t : List Int} (h : Sq z t) {a b : Int} (ha : 0 ≤ a ∧ a < z) (hb : 0 ≤ b ∧ b < z) : 0 ≤ opw z t a b ∧ opw z t a b < z := by
  obtain ⟨_, _, h2, h3⟩ := opidx h ha hb
  exact h.2.2 _ (rd_mem h2 h3)
def Indiff (z : Nat) (t : List Int) : Prop := ∀ a : Nat, a < z → ∀ b : Nat, b < z → ∀ c : Nat, c < z → opw z t a b = opw z t b a ∧ opw z t (opw z t a b) c = opw z t a (opw z t b c)
theorem indiff1_ev {z : Nat} {t : List Int} (h : Sq z t) {a b : Int} (ha : 0 ≤ a ∧ a < z) (hb : 0 ≤ b ∧ b < z) : Ev (fun _ => impl_indifferent_1_v2.f a b t z) (opw z t a b, t, (z : Int)) := by
  obtain ⟨h0, h1, h2, h3⟩ := opidx h ha hb
  refine Wp.ev ?_
  unfold impl_indifferent_1_v2.f
  simp only [h0, h1]
  repeat' (first|(with_reducible refine Wp.itetB ?c_ ?_;(case c_=>first|exact Int.natCast_nonneg _|omega|assumption))|(with_reducible refine Wp.itefB ?c_ ?_;(case c_=>first|exact Int.natCast_nonneg _|omega|assumption))|(with_reducible refine Wp.itet ?c_ ?_;(case c_=>first|exact Int.natCast_nonneg _|omega|assumption))|(with_reducible refine Wp.itef ?c_ ?_;(case c_=>first|exact Int.natCast_nonneg _|omega|assumption))|(simp only [decide_eq_true_eq])|(with_reducible refine Wp.ret ?_)|(with_reducible refine Wp.itet ?c_ ?_;(case c_=>simp only [List.length_append, List.length_cons, List.length_nil, List.length_take, List.length_drop, List.length_replicate]; omega))|(with_reducible refine Wp.iteB (fun hc => ?_) (fun hc => ?_))|(with_reducible refine Wp.ite (fun hc => ?_) (fun hc => ?_)))
  rfl
theorem impl_indifferent_ev {z : Nat} {t : List Int} (h : Sq z t) : Ev (fun k => impl_indifferent.f k z t) (B (Indiff z t)) := by
  have hz : z ≤ 1000000000 := by have := h.1.2; omega
  unfold impl_indifferent.f
  refine (Wp.all (Φ := fun a => ∀ b : Nat, b < z → ∀ c : Nat, c < z → opw z t a b = opw z t b a ∧ opw z t (opw z t a b) c = opw z t a (opw z t b c)) (Ψ := True) z hz (fun k i => impl_indifferent.l0 k z i z t) ?_ ?_).val (B_congr (and_true _ ▸ Iff.rfl))
  · intro a P hi hw hT hF
    refine Wp.step (fun k => by rw [impl_indifferent.l0]) ?_
    refine Wp.itet (by omega) ?_
    refine Wp.allP (Φ := fun b => ∀ c : Nat, c < z → opw z t a b = opw z t b a ∧ opw z t (opw z t a b) c = opw z t a (opw z t b c)) z hz (fun k i => impl_indifferent.l1 k a z a z i z t) ?_ ?_ hF
    · intro b hj hwb hT2 hF2
      refine Wp.step (fun k => by rw [impl_indifferent.l1]) ?_
      refine Wp.itet (by omega) ?_
      refine Wp.allP (Φ := fun c => opw z t a b = opw z t b a ∧ opw z t (opw z t a b) c = opw z t a (opw z t b c)) z hz (fun k i => impl_indifferent.l2 k a b z a z b z i z t) ?_ ?_ hF2
      · intro c hc hwc hT3 hF3
        refine Wp.step (fun k => by rw [impl_indifferent.l2]) ?_
        have rab := opw_rng h (a := a) (b := b) (by omega) (by omega)
        have rbc := opw_rng h (a := b) (b := c) (by omega) (by omega)
        simp only [hwc.e]
        repeat' (first|(with_reducible refine Wp.itetB ?c_ ?_;(case c_=>first|exact Int.natCast_nonneg _|omega|assumption))|(with_reducible refine Wp.itefB ?c_ ?_;(case c_=>first|exact Int.natCast_nonneg _|omega|assumption))|(with_reducible refine Wp.itet ?c_ ?_;(case c_=>first|exact Int.natCast_nonneg _|omega|assumption))|(with_reducible refine Wp.itef ?c_ ?_;(case c_=>first|exact Int.natCast_nonneg _|omega|assumption))|(with_reducible refine Wp.bindE (indiff1_ev h (by omega) (by omega)) ?_)|(exact hT3 (by simp_all))|(exact hF3 (by simp_all))|(simp only [decide_eq_true_eq])|(with_reducible refine Wp.ret ?_)|(with_reducible refine Wp.itet ?c_ ?_;(case c_=>simp only [List.length_append, List.length_cons, List.length_nil, List.length_take, List.length_drop, List.length_replicate]; omega))|(with_reducible refine Wp.iteB (fun hc => ?_) (fun hc => ?_))|(with_reducible refine Wp.ite (fun hc => ?_) (fun hc => ?_)))
        all_goals first | exact hT3 (by simp_all) | exact hF3 (by simp_all)
      · intro hall
        refine Wp.step (fun k => by rw [impl_indifferent.l2]) ?_
        simp only [hwb.e]
        refine Wp.itef (by omega) (hT2 hall)
    · intro hall
      refine Wp.step (fun k => by rw [impl_indifferent.l1]) ?_
      simp only [hw.e]
      refine Wp.itef (by omega) (hT hall)
  · intro _
    refine Wp.step (fun k => by rw [impl_indifferent.l0]) ?_
    refine Wp.itef (by omega) (Wp.ret ?_)
    rw [eqB]; simp
theorem contains_ev (z : Int) (T : List (List Int)) (t : List Int) (hl : t.length ≤ 1000000000) (hz : 1 ≤ z ∧ z ≤ 4) : Ev (fun k => slices_ContainsFunc_int_int__impl_WorldOk_1.f k t z T) (B (∃ i, i < t.length ∧ ¬ (0 ≤ rd t i ∧ rd t i ≤ z - 1)), z, T) := by
  have hw1 : wrap64 (z - 1) = z - 1 := wrap_id (by omega) (by omega)
  have key : Ev (fun k => slices_IndexFunc_int_int__impl_WorldOk_1.f k t z T) (fidx (fun i => ¬ (0 ≤ rd t i ∧ rd t i ≤ z - 1)) t.length 0, z, T) := by
    unfold slices_IndexFunc_int_int__impl_WorldOk_1.f
    refine Wp.find t.length hl (fun k i => slices_IndexFunc_int_int__impl_WorldOk_1.l0 k t t.length i z T) (fun i => (i, z, T)) ?_ ?_
    · intro i P hi hw hT hF
      refine Wp.step (fun k => by rw [slices_IndexFunc_int_int__impl_WorldOk_1.l0]) ?_
      have hc : Ev (fun _ => impl_WorldOk_1_v2.f (rd t i) z T) (B (¬ (0 ≤ rd t i ∧ rd t i ≤ z - 1)), z, T) := by
        unfold impl_WorldOk_1_v2.f
        rw [hw1]
        refine ((impl_from_ev _ _ _).bind Ev.ret).val ?_
        rw [not_B]
      simp only [hw.e]
      repeat' (first|(with_reducible refine Wp.itetB ?c_ ?_;(case c_=>first|exact Int.natCast_nonneg _|omega|assumption))|(with_reducible refine Wp.itefB ?c_ ?_;(case c_=>first|exact Int.natCast_nonneg _|omega|assumption))|(with_reducible refine Wp.itet ?c_ ?_;(case c_=>first|exact Int.natCast_nonneg _|omega|assumption))|(with_reducible refine Wp.itef ?c_ ?_;(case c_=>first|exact Int.natCast_nonneg _|omega|assumption))|(with_reducible refine Wp.bindE (hc) ?_)|(simp only [decide_eq_true_eq])|(with_reducible refine Wp.ret ?_)|(with_reducible refine Wp.itet ?c_ ?_;(case c_=>simp only [List.length_append, List.length_cons, List.length_nil, List.length_take, List.length_drop, List.length_replicate]; omega))|(with_reducible refine Wp.iteB (fun hc => ?_) (fun hc => ?_))|(with_reducible refine Wp.ite (fun hc => ?_) (fun hc => ?_)))
      all_goals first | exact hF (by assumption) | exact hT (by assumption)
    · refine Wp.step (fun k => by rw [slices_IndexFunc_int_int__impl_WorldOk_1.l0]) ?_
      repeat' (first|(with_reducible refine Wp.itetB ?c_ ?_;(case c_=>first|exact Int.natCast_nonneg _|omega|assumption))|(with_reducible refine Wp.itefB ?c_ ?_;(case c_=>first|exact Int.natCast_nonneg _|omega|assumption))|(with_reducible refine Wp.itet ?c_ ?_;(case c_=>first|exact Int.natCast_nonneg _|omega|assumption))|(with_reducible refine Wp.itef ?c_ ?_;(case c_=>first|exact Int.natCast_nonneg _|omega|assumption))|(simp only [decide_eq_true_eq])|(with_reducible refine Wp.ret ?_)|(with_reducible refine Wp.itet ?c_ ?_;(case c_=>simp only [List.length_append, List.length_cons, List.length_nil, List.length_take, List.length_drop, List.length_replicate]; omega))|(with_reducible refine Wp.iteB (fun hc => ?_) (fun hc => ?_))|(with_reducible refine Wp.ite (fun hc => ?_) (fun hc => ?_)))
      all_goals rfl
  unfold slices_ContainsFunc_int_int__impl_WorldOk_1.f
  refine (key.bind Ev.ret).val ?_
  rw [dec_B, B_congr fidx_ge]
def RowOk (s : List I_Sym) (z : Nat) (T : List (List Int)) (i : Nat) : Prop := (rd_Ls_i64 T i).length = z ^ (rd_I_Sym s i).f1.toNat ∧ InR z (rd_Ls_i64 T i) ∧ ((rd_I_Sym s i).f2 = true → Indiff z (rd_Ls_i64 T i))
def WorldOk (s : List I_Sym) (z : Nat) (T : List (List Int)) : Prop := SigOk s ∧ (1 ≤ z ∧ z ≤ 4) ∧ T.length = s.length ∧ ∀ i, i < s.length → RowOk s z T i
/-- all rows are short -/
def Rows (T : List (List Int)) : Prop := ∀ x ∈ T, x.length ≤ 1000000000
theorem rdRow_mem {T : List (List Int)} {i : Int} (h0 : 0 ≤ i) (h1 : i < (T.length : Int)) : rd_Ls_i64 T i ∈ T := rdOf_mem (z := []) h0 h1
theorem inR_rd {z : Nat} {t : List Int} : InR z t ↔ ¬ ∃ i, i < t.length ∧ ¬ (0 ≤ rd t i ∧ rd t i ≤ (z : Int) - 1) := by
  constructor
  · rintro h ⟨i, hi, hn⟩
    have := h _ (rd_mem (t := t) (i := i) (by omega) (by omega))
    omega
  · intro h x hx
    obtain ⟨i, hi, rfl⟩ := List.getElem_of_mem hx
    have e : rd t i = t[i] := by
      show t.getD i 0 = _
      rw [List.getD_eq_getElem?_getD, List.getElem?_eq_getElem hi]; rfl
    rcases Classical.em (0 ≤ rd t i ∧ rd t i ≤ (z : Int) - 1) with h1 | h1
    · rw [e] at h1; omega
    · exact absurd ⟨i, hi, h1⟩ h
theorem impl_WorldOk_ev (s : List I_Sym) (z : Int) (T : List (List Int)) (hs : Names s) (hT : Rows T) : Ev (fun k => impl_WorldOk.f k s z T) (B (0 ≤ z ∧ WorldOk s z.toNat T)) := by
  refine Wp.ev ?_
  unfold impl_WorldOk.f
  repeat' (first|(with_reducible refine Wp.itetB ?c_ ?_;(case c_=>first|exact Int.natCast_nonneg _|omega|assumption))|(with_reducible refine Wp.itefB ?c_ ?_;(case c_=>first|exact Int.natCast_nonneg _|omega|assumption))|(with_reducible refine Wp.itet ?c_ ?_;(case c_=>first|exact Int.natCast_nonneg _|omega|assumption))|(with_reducible refine Wp.itef ?c_ ?_;(case c_=>first|exact Int.natCast_nonneg _|omega|assumption))|(with_reducible refine Wp.bindE (impl_SigOk_ev s hs) ?_)|(with_reducible refine Wp.bindE (impl_from_ev _ _ _) ?_)|(simp only [decide_eq_true_eq])|(with_reducible refine Wp.ret ?_)|(with_reducible refine Wp.itet ?c_ ?_;(case c_=>simp only [List.length_append, List.length_cons, List.length_nil, List.length_take, List.length_drop, List.length_replicate]; omega))|(with_reducible refine Wp.iteB (fun hc => ?_) (fun hc => ?_))|(with_reducible refine Wp.ite (fun hc => ?_) (fun hc => ?_)))
  · rename_i h1 h2
    obtain ⟨z, rfl⟩ : ∃ n : Nat, z = n := ⟨z.toNat, by omega⟩
    refine ((Wp.all (Φ := fun i => RowOk s z T i) (Ψ := True) s.length hs.1 (fun k i => impl_WorldOk.l0 k s s.length i z T) ?_ ?_).val ?_).wp rfl
    · intro i P hi hw hT' hF
      refine Wp.step (fun k => by rw [impl_WorldOk.l0]) ?_
      have hrow := hT _ (rdRow_mem (T := T) (i := i) (by omega) (by omega))
      have sig := h1.1 i hi
      have sq : (rd_Ls_i64 T i).length = z ^ (rd_I_Sym s i).f1.toNat → InR z (rd_Ls_i64 T i) → (rd_I_Sym s i).f2 = true → Sq z (rd_Ls_i64 T i) := by
        intro a b c
        refine ⟨by omega, ?_, b⟩
        rw [a, sig.2.2.2 c]
        show z ^ 2 = z * z
        rw [Nat.pow_two]
      simp only [hw.e]
      have sig3 := sig.2.2.1
      repeat' (first|(with_reducible refine Wp.itetB ?c_ ?_;(case c_=>first|exact Int.natCast_nonneg _|omega|assumption))|(with_reducible refine Wp.itefB ?c_ ?_;(case c_=>first|exact Int.natCast_nonneg _|omega|assumption))|(with_reducible refine Wp.itet ?c_ ?_;(case c_=>first|exact Int.natCast_nonneg _|omega|assumption))|(with_reducible refine Wp.itef ?c_ ?_;(case c_=>first|exact Int.natCast_nonneg _|omega|assumption))|(with_reducible refine Wp.bindE (impl_placesOf_ev z (by omega) _ sig3) ?_)|(with_reducible refine Wp.bindE (contains_ev z T _ hrow (by omega)) ?_)|(with_reducible refine Wp.bindE (impl_indifferent_ev (sq (by omega) (inR_rd.2 (by assumption)) (by assumption))) ?_)|(exact hT' ⟨by omega, inR_rd.2 (by assumption), by simp_all⟩)|(exact hT' ⟨by omega, inR_rd.2 (by assumption), fun _ => by assumption⟩)|(simp only [decide_eq_true_eq])|(with_reducible refine Wp.ret ?_)|(with_reducible refine Wp.itet ?c_ ?_;(case c_=>simp only [List.length_append, List.length_cons, List.length_nil, List.length_take, List.length_drop, List.length_replicate]; omega))|(with_reducible refine Wp.iteB (fun hc => ?_) (fun hc => ?_))|(with_reducible refine Wp.ite (fun hc => ?_) (fun hc => ?_)))
      all_goals first | exact hT' ⟨by omega, inR_rd.2 (by assumption), by simp_all⟩ | exact hT' ⟨by omega, inR_rd.2 (by assumption), fun _ => by assumption⟩ | skip
      all_goals refine hF ?_
      · intro h; have := inR_rd.1 h.2.1; contradiction
      · intro h; exact absurd (h.2.2 (by assumption)) (by assumption)
      · intro h; have := h.1; omega
    · intro _
      refine Wp.step (fun k => by rw [impl_WorldOk.l0]) ?_
      refine Wp.itef (by omega) (Wp.ret ?_)
      rw [eqB]; simp
    · refine B_congr ⟨fun h => ⟨by omega, h1, by omega, by omega, h.1⟩, fun h => ⟨h.2.2.2.2, trivial⟩⟩
  all_goals (rw [eqB]; simp only [Bool.false_eq_true, false_iff]; rintro ⟨_, h1, h2, h3, h4⟩; first | omega | contradiction)
/-! #### what is drawn -/
theorem and_rng (e : Int) : 0 ≤ bits .and .i64 e 255 ∧ bits .and .i64 e 255 ≤ 255 := by
  have h : (BitVec.ofInt 64 e &&& BitVec.ofInt 64 255).toNat ≤ 255 := by
    rw [BitVec.toNat_and, BitVec.toNat_ofInt]
    exact Nat.and_le_right
  have h2 : bits .and .i64 e 255 = IntKind.i64.wrap (((BitVec.ofInt 64 e &&& BitVec.ofInt 64 255).toNat : Nat) : Int) := rfl
  rw [h2, IntKind.wrap_i64]
  omega
/-- a cursor: its bytes, where it stands -/
structure Cur (b : List Int) (i : Int) : Prop where
  i0 : 0 ≤ i
  ln : b.length ≤ 1048576
theorem spec_l1New_v2_wp (b : List Int) (h : b.length ≤ 1048576) : Wp (fun k => spec_l1New_v2.f k b) (fun r => Cur r.1 r.2.1) := by
  unfold spec_l1New_v2.f
  refine Wp.cnt1 (min b.length 4000) (by omega) (fun k i s => spec_l1New_v2.l0 k b s i) (fun i s => True) ?_ ?_ _ trivial
  · intro i s hi hw _ ih
    refine Wp.step (fun k => by rw [spec_l1New_v2.l0]) ?_
    simp only [hw.e]
    repeat' (first|(with_reducible refine Wp.itetB ?c_ ?_;(case c_=>first|exact Int.natCast_nonneg _|omega|assumption))|(with_reducible refine Wp.itefB ?c_ ?_;(case c_=>first|exact Int.natCast_nonneg _|omega|assumption))|(with_reducible refine Wp.itet ?c_ ?_;(case c_=>first|exact Int.natCast_nonneg _|omega|assumption))|(with_reducible refine Wp.itef ?c_ ?_;(case c_=>first|exact Int.natCast_nonneg _|omega|assumption))|(exact ih _ trivial)|(simp only [decide_eq_true_eq])|(with_reducible refine Wp.ret ?_)|(with_reducible refine Wp.itet ?c_ ?_;(case c_=>simp only [List.length_append, List.length_cons, List.length_nil, List.length_take, List.length_drop, List.length_replicate]; omega))|(with_reducible refine Wp.iteB (fun hc => ?_) (fun hc => ?_))|(with_reducible refine Wp.ite (fun hc => ?_) (fun hc => ?_)))
  · intro s _
    refine Wp.step (fun k => by rw [spec_l1New_v2.l0]) ?_
    repeat' (first|(with_reducible refine Wp.itetB ?c_ ?_;(case c_=>first|exact Int.natCast_nonneg _|omega|assumption))|(with_reducible refine Wp.itefB ?c_ ?_;(case c_=>first|exact Int.natCast_nonneg _|omega|assumption))|(with_reducible refine Wp.itet ?c_ ?_;(case c_=>first|exact Int.natCast_nonneg _|omega|assumption))|(with_reducible refine Wp.itef ?c_ ?_;(case c_=>first|exact Int.natCast_nonneg _|omega|assumption))|(simp only [decide_eq_true_eq])|(with_reducible refine Wp.ret ?_)|(with_reducible refine Wp.itet ?c_ ?_;(case c_=>simp only [List.length_append, List.length_cons, List.length_nil, List.length_take, List.length_drop, List.length_replicate]; omega))|(with_reducible refine Wp.iteB (fun hc => ?_) (fun hc => ?_))|(with_reducible refine Wp.ite (fun hc => ?_) (fun hc => ?_)))
    all_goals exact ⟨Int.le_refl _, h⟩
theorem spec_l1Byte_v2_wp {b : List Int} {i : Int} (h : Int) (hc : Cur b i) : Wp (fun _ => spec_l1Byte_v2.f b i h) (fun r => (0 ≤ r.1 ∧ r.1 ≤ 255) ∧ Cur r.2.1 r.2.2.1) := by
  obtain ⟨h0, h1⟩ := hc
  unfold spec_l1Byte_v2.f
  repeat' (first|(with_reducible refine Wp.itetB ?c_ ?_;(case c_=>first|exact Int.natCast_nonneg _|omega|assumption))|(with_reducible refine Wp.itefB ?c_ ?_;(case c_=>first|exact Int.natCast_nonneg _|omega|assumption))|(with_reducible refine Wp.itet ?c_ ?_;(case c_=>first|exact Int.natCast_nonneg _|omega|assumption))|(with_reducible refine Wp.itef ?c_ ?_;(case c_=>first|exact Int.natCast_nonneg _|omega|assumption))|(simp only [decide_eq_true_eq])|(with_reducible refine Wp.ret ?_)|(with_reducible refine Wp.itet ?c_ ?_;(case c_=>simp only [List.length_append, List.length_cons, List.length_nil, List.length_take, List.length_drop, List.length_replicate]; omega))|(with_reducible refine Wp.iteB (fun hc => ?_) (fun hc => ?_))|(with_reducible refine Wp.ite (fun hc => ?_) (fun hc => ?_)))
  · refine ⟨and_rng _, ?_, h1⟩
    show 0 ≤ wrap64 (i + 1)
    rw [wrap_id (by omega) (by omega)]; omega
  · exact ⟨and_rng _, h0, h1⟩
theorem tmod_rng0 {x n : Int} (h : 0 ≤ x) (hn : 0 < n) : 0 ≤ x.tmod n ∧ x.tmod n < n := by
  rw [Int.tmod_eq_emod_of_nonneg h]
  exact ⟨Int.emod_nonneg _ (by omega), Int.emod_lt_of_pos _ hn⟩
theorem spec_l1Below_v2_wp (n : Int) {b : List Int} {i : Int} (h : Int) (hc : Cur b i) : Wp (fun _ => spec_l1Below_v2.f n b i h) (fun r => (0 ≤ r.1 ∧ (r.1 < n ∨ (n ≤ 0 ∧ r.1 = 0))) ∧ Cur r.2.1 r.2.2.1) := by
  unfold spec_l1Below_v2.f
  refine Wp.ite (fun hn => Wp.ret ⟨⟨Int.le_refl _, .inr ⟨hn, rfl⟩⟩, hc⟩) (fun hn => Wp.ite (fun h2 => ?_) (fun h2 => ?_))
  · refine Wp.bind (spec_l1Byte_v2_wp _ hc) (fun r hr => Wp.itef (by omega) (Wp.ret ⟨?_, hr.2⟩))
    have := tmod_rng0 hr.1.1 (n := n) (by omega)
    exact ⟨this.1, .inl this.2⟩
  · refine Wp.bind (spec_l1Byte_v2_wp _ hc) (fun r hr => Wp.bind (spec_l1Byte_v2_wp _ hr.2) (fun s hs => Wp.bind (spec_l1Byte_v2_wp _ hs.2) (fun t ht => Wp.bind (spec_l1Byte_v2_wp _ ht.2) (fun u hu => Wp.itef (by omega) (Wp.ret ⟨?_, hu.2⟩)))))
    have r1 := hr.1; have s1 := hs.1; have t1 := ht.1; have u1 := hu.1
    rw [wrap_id (x := r.1 * 16777216) (by omega) (by omega), wrap_id (x := s.1 * 65536) (by omega) (by omega), wrap_id (x := t.1 * 256) (by omega) (by omega), wrap_id (x := r.1 * 16777216 + s.1 * 65536) (by omega) (by omega), wrap_id (x := r.1 * 16777216 + s.1 * 65536 + t.1 * 256) (by omega) (by omega), wrap_id (x := r.1 * 16777216 + s.1 * 65536 + t.1 * 256 + u.1) (by omega) (by omega)]
    have := tmod_rng0 (x := r.1 * 16777216 + s.1 * 65536 + t.1 * 256 + u.1) (by omega) (n := n) (by omega)
    exact ⟨this.1, .inl this.2⟩
theorem spec_l1Once_v2_wp (n : Int) {b : List Int} {i : Int} (h : Int) (hc : Cur b i) : Wp (fun _ => spec_l1Once_v2.f n b i h) (fun r => Cur r.2.1 r.2.2.1) := by
  unfold spec_l1Once_v2.f
  exact Wp.bind (spec_l1Below_v2_wp n h hc) (fun r hr => Wp.ret hr.2)
theorem spec_l1PickInt_v2_wp (l : List Int) (hl : l ≠ []) {b : List Int} {i : Int} (h : Int) (hc : Cur b i) : Wp (fun _ => spec_l1PickInt_v2.f l b i h) (fun r => r.1 ∈ l ∧ Cur r.2.1 r.2.2.1) := by
  unfold spec_l1PickInt_v2.f
  have hp : 0 < l.length := List.length_pos_iff.2 hl
  refine Wp.bind (spec_l1Below_v2_wp _ h hc) (fun r hr => ?_)
  obtain ⟨⟨a, c⟩, d⟩ := hr
  have e : r.1 < (l.length : Int) := by omega
  exact Wp.itet a (Wp.itet e (Wp.ret ⟨rd_mem a e, d⟩))
def sig2 : List I_Sym := [⟨⟨#[116, 116]⟩, 0, false⟩, ⟨⟨#[97]⟩, 0, false⟩, ⟨⟨#[98]⟩, 0, false⟩, ⟨⟨#[103]⟩, 1, false⟩, ⟨⟨#[104]⟩, 2, false⟩, ⟨⟨#[102]⟩, 2, true⟩, ⟨⟨#[107]⟩, 2, true⟩]
theorem spec_l2Sig_ev : Ev (fun _ => spec_l2Sig.f) sig2 := Ev.ret
theorem sig2_names : Names sig2 := by
  refine ⟨by decide, fun x hx => ?_⟩
  simp only [sig2, List.mem_cons, List.not_mem_nil, or_false] at hx
  rcases hx with rfl | rfl | rfl | rfl | rfl | rfl | rfl <;> decide
theorem sig2_ars : ∀ x ∈ sig2, 0 ≤ x.f1 ∧ x.f1 ≤ 3 ∧ (x.f2 = true → x.f1 = 2) := by
  intro x hx
  simp only [sig2, List.mem_cons, List.not_mem_nil, or_false] at hx
  rcases hx with rfl | rfl | rfl | rfl | rfl | rfl | rfl <;> decide
/-! #### slices.SortStableFunc: what comes of it is in order, and has what was there -/
def hf (x y : Int) : Int := wrap64 (Int.fdiv (IntKind.wrap .u64 (wrap64 (x + y))) (2 ^ (min (1 : Int).toNat 64)))
structure Srt (α : Type) where
  z : α
  cmpE : Nat → α → α → Option Int
  cmp : α → α → Ordering
  Q : α → Prop
  hcmp : ∀ a b, Q a → Q b → Ev (fun k => cmpE k a b) (ordI (cmp a b))
  same : ∀ {a b}, cmp a b = .eq ↔ a = b
  swp : ∀ a b, cmp b a = (cmp a b).swap
  tr : ∀ {a b c}, cmp a b = .lt → cmp b c = .lt → cmp a c = .lt
  ins0 : Nat → List α → Int → Int → Int → Option (List α)
  ins1 : Nat → List α → Int → Int → Int → Int → Option (List α)
  swp0 : Nat → List α → Int → Int → Int → Int → Option (List α)
  rot0 : Nat → List α → Int → Int → Int → Option (List α)
  sy0 : Nat → List α → Int → Int → Int → Option (List α)
  sy1 : Nat → List α → Int → Int → Option (List α)
  sy2 : Nat → List α → Int → Int → Int → Option (List α)
  sy3 : Nat → List α → Int → Int → Option (List α)
  sy4 : Nat → List α → Int → Int → Int → Int → Int → Int → Int → Int → Option (List α)
  j0 : Nat → List α → Int → Int → Int → Int → Int → Option (List α)
  j1 : Nat → List α → Int → Int → Int → Option (List α)
  sy : Nat → List α → Int → Int → Int → Option (List α)
  st0 : Nat → List α → Int → Int → Int → Int → Option (List α)
  st1 : Nat → List α → Int → Int → Option (List α)
  st2 : Nat → List α → Int → Int → Int → Int → Option (List α)
  eins0 : ∀ k x a b i, ins0 (k + 1) x a b i = if i < b then ins1 k x a b i i else some x
  eins1 : ∀ k x a b i j, ins1 (k + 1) x a b i j = if j > a then (if 0 ≤ j then (if j < (x.length : Int) then (if 0 ≤ wrap64 (j - 1) then (if wrap64 (j - 1) < (x.length : Int) then ((cmpE k (rdOf z x j) (rdOf z x (wrap64 (j - 1)))).bind fun t => if t < 0 then (if wrap64 (j - 1) < ((x.set j.toNat (rdOf z x (wrap64 (j - 1)))).length : Int) then ins1 k ((x.set j.toNat (rdOf z x (wrap64 (j - 1)))).set (wrap64 (j - 1)).toNat (rdOf z x j)) a b i (wrap64 (j - 1)) else none) else ins0 k x a b (wrap64 (i + 1))) else none) else none) else none) else none) else ins0 k x a b (wrap64 (i + 1))
  eswp : ∀ k x a b n i, swp0 (k + 1) x a b n i = if i < n then (if 0 ≤ wrap64 (b + i) then (if wrap64 (b + i) < (x.length : Int) then (if 0 ≤ wrap64 (a + i) then (if wrap64 (a + i) < (x.length : Int) then (if wrap64 (b + i) < ((x.set (wrap64 (a + i)).toNat (rdOf z x (wrap64 (b + i)))).length : Int) then swp0 k ((x.set (wrap64 (a + i)).toNat (rdOf z x (wrap64 (b + i)))).set (wrap64 (b + i)).toNat (rdOf z x (wrap64 (a + i)))) a b n (wrap64 (i + 1)) else none) else none) else none) else none) else none) else some x
  erot : ∀ k x m i j, rot0 (k + 1) x m i j = if i = j then ((swp0 k x (wrap64 (m - i)) m i 0).bind fun t => some t) else (if i > j then ((swp0 k x (wrap64 (m - i)) m j 0).bind fun t => rot0 k t m (wrap64 (i - j)) j) else ((swp0 k x (wrap64 (m - i)) (wrap64 ((wrap64 (m + j)) - i)) i 0).bind fun t => rot0 k t m i (wrap64 (j - i))))
  esy0 : ∀ k x a i j, sy0 (k + 1) x a i j = if i < j then (if 0 ≤ hf i j then (if hf i j < (x.length : Int) then (if 0 ≤ a then (if a < (x.length : Int) then ((cmpE k (rdOf z x (hf i j)) (rdOf z x a)).bind fun t => if t < 0 then sy0 k x a (wrap64 (hf i j + 1)) j else sy0 k x a i (hf i j)) else none) else none) else none) else none) else sy1 k x i a
  esy1 : ∀ k x i c, sy1 (k + 1) x i c = if c < wrap64 (i - 1) then (if 0 ≤ wrap64 (c + 1) then (if wrap64 (c + 1) < (x.length : Int) then (if 0 ≤ c then (if c < (x.length : Int) then (if wrap64 (c + 1) < ((x.set c.toNat (rdOf z x (wrap64 (c + 1)))).length : Int) then sy1 k ((x.set c.toNat (rdOf z x (wrap64 (c + 1)))).set (wrap64 (c + 1)).toNat (rdOf z x c)) i (wrap64 (c + 1)) else none) else none) else none) else none) else none) else some x
  esy2 : ∀ k x m i j, sy2 (k + 1) x m i j = if i < j then (if 0 ≤ m then (if m < (x.length : Int) then (if 0 ≤ hf i j then (if hf i j < (x.length : Int) then ((cmpE k (rdOf z x m) (rdOf z x (hf i j))).bind fun t => if t < 0 then sy2 k x m i (hf i j) else sy2 k x m (wrap64 (hf i j + 1)) j) else none) else none) else none) else none) else sy3 k x i m
  esy3 : ∀ k x i c, sy3 (k + 1) x i c = if c > i then (if 0 ≤ wrap64 (c - 1) then (if wrap64 (c - 1) < (x.length : Int) then (if 0 ≤ c then (if c < (x.length : Int) then (if wrap64 (c - 1) < ((x.set c.toNat (rdOf z x (wrap64 (c - 1)))).length : Int) then sy3 k ((x.set c.toNat (rdOf z x (wrap64 (c - 1)))).set (wrap64 (c - 1)).toNat (rdOf z x c)) i (wrap64 (c - 1)) else none) else none) else none) else none) else none) else some x
  esy4 : ∀ k x a m b mid n start r p, sy4 (k + 1) x a m b mid n start r p = if start < r then (if 0 ≤ wrap64 (p - hf start r) then (if wrap64 (p - hf start r) < (x.length : Int) then (if 0 ≤ hf start r then (if hf start r < (x.length : Int) then ((cmpE k (rdOf z x (wrap64 (p - hf start r))) (rdOf z x (hf start r))).bind fun t => if t < 0 then sy4 k x a m b mid n start (hf start r) p else sy4 k x a m b mid n (wrap64 (hf start r + 1)) r p) else none) else none) else none) else none) else (if start < m then (if m < wrap64 (n - start) then ((rot0 k x m (wrap64 (m - start)) (wrap64 ((wrap64 (n - start)) - m))).bind fun t => j0 k t a b mid start (wrap64 (n - start))) else j0 k x a b mid start (wrap64 (n - start))) else j0 k x a b mid start (wrap64 (n - start)))
  ej0 : ∀ k x a b mid start e, j0 (k + 1) x a b mid start e = if a < start then (if start < mid then ((sy k x a start mid).bind fun t => j1 k t b mid e) else j1 k x b mid e) else j1 k x b mid e
  ej1 : ∀ k x b mid e, j1 (k + 1) x b mid e = if mid < e then (if e < b then ((sy k x mid e b).bind fun t => some t) else some x) else some x
  esy : ∀ k x a m b, sy (k + 1) x a m b = if wrap64 (m - a) = 1 then sy0 k x a m b else (if wrap64 (b - m) = 1 then sy2 k x m a m else (if m > hf a b then sy4 k x a m b (hf a b) (wrap64 (hf a b + m)) (wrap64 ((wrap64 (hf a b + m)) - b)) (hf a b) (wrap64 ((wrap64 (hf a b + m)) - 1)) else sy4 k x a m b (hf a b) (wrap64 (hf a b + m)) a m (wrap64 ((wrap64 (hf a b + m)) - 1))))
  est0 : ∀ k x n bs a b, st0 (k + 1) x n bs a b = if b ≤ n then ((ins0 k x a b (wrap64 (a + 1))).bind fun t => st0 k t n bs b (wrap64 (b + bs))) else ((ins0 k x a n (wrap64 (a + 1))).bind fun t => st1 k t n bs)
  est1 : ∀ k x n bs, st1 (k + 1) x n bs = if bs < n then st2 k x n bs 0 (wrap64 (2 * bs)) else some x
  est2 : ∀ k x n bs a b, st2 (k + 1) x n bs a b = if b ≤ n then ((sy k x a (wrap64 (a + bs)) b).bind fun t => st2 k t n bs b (wrap64 (b + wrap64 (2 * bs)))) else (if wrap64 (a + bs) < n then ((sy k x a (wrap64 (a + bs)) n).bind fun t => st1 k t n (wrap64 (bs * 2))) else st1 k x n (wrap64 (bs * 2)))
def Srt.le {α : Type} (S : Srt α) (a b : α) : Prop := S.cmp a b ≠ .gt
theorem Srt.le_of_lt {α : Type} (S : Srt α) {a b : α} (h : S.cmp a b = .lt) : S.le a b := by unfold Srt.le; rw [h]; nofun
theorem Srt.le_refl {α : Type} (S : Srt α) (a : α) : S.le a a := by unfold Srt.le; rw [S.same.2 rfl]; nofun
/-! #### worlds, and what is so in them: the reference -/
theorem spec_l24Power_ev (z : Nat) (hz : 1 ≤ z ∧ z ≤ 4) (a : Nat) (ha : a ≤ 4) : Ev (fun k => spec_l24Power.f k z a) ((z ^ a : Nat) : Int) := by
  unfold spec_l24Power.f
  refine Wp.ev (Wp.cnt1 a (by omega) (fun k i s => spec_l24Power.l0 k z a s i) (fun i s => s = ((z ^ i : Nat) : Int)) ?_ ?_ 1 rfl)
  · intro i s hi hw hI ih
    refine Wp.step (fun k => by rw [spec_l24Power.l0]) ?_
    have hm : wrap64 (s * z) = ((z ^ (i + 1) : Nat) : Int) := by
      subst hI
      have : i = 0 ∨ i = 1 ∨ i = 2 ∨ i = 3 := by omega
      rcases z4 hz with rfl | rfl | rfl | rfl <;> rcases this with rfl | rfl | rfl | rfl <;> decide +kernel
    rw [hw.e, hm]
    exact Wp.itet (by omega) (ih _ rfl)
  · intro s hI
    refine Wp.step (fun k => by rw [spec_l24Power.l0]) ?_
    exact Wp.itef (by omega) (Wp.ret hI)
theorem twoW_ev {z : Nat} {T : List (List Int)} {f : Nat} (hf : f < T.length) (h : Sq z (rd_Ls_i64 T f)) {a b : Int} (ha : 0 ≤ a ∧ a < z) (hb : 0 ≤ b ∧ b < z) : Ev (fun _ => spec_l24Two.f z T f a b) (opw z (rd_Ls_i64 T f) a b) := by
  obtain ⟨h0, h1, h2, h3⟩ := opidx h ha hb
  refine Wp.ev ?_
  unfold spec_l24Two.f
  rw [h0, h1]
  exact Wp.itet (Int.natCast_nonneg _) (Wp.itet (by omega) (Wp.itet h2 (Wp.itet h3 (Wp.ret rfl))))
theorem spec_l24Blind_ev {z : Nat} {T : List (List Int)} {f : Nat} (hf : f < T.length) (h : Sq z (rd_Ls_i64 T f)) : Ev (fun k => spec_l24Blind.f k z T f) (B (Indiff z (rd_Ls_i64 T f))) := by
  have hz : z ≤ 1000000000 := by have := h.1.2; omega
  unfold spec_l24Blind.f
  refine (Wp.all (Φ := fun a => ∀ b : Nat, b < z → opw z (rd_Ls_i64 T f) a b = opw z (rd_Ls_i64 T f) b a ∧ ∀ c : Nat, c < z → opw z (rd_Ls_i64 T f) (opw z (rd_Ls_i64 T f) a b) c = opw z (rd_Ls_i64 T f) a (opw z (rd_Ls_i64 T f) b c)) (Ψ := True) z hz (fun k i => spec_l24Blind.l0 k f i z T) ?_ ?_).val (B_congr ?_)
  · intro a P hi hw hT hF
    refine Wp.step (fun k => by rw [spec_l24Blind.l0]) ?_
    refine Wp.itet (by omega) (Wp.allP (Φ := fun b => opw z (rd_Ls_i64 T f) a b = opw z (rd_Ls_i64 T f) b a ∧ ∀ c : Nat, c < z → opw z (rd_Ls_i64 T f) (opw z (rd_Ls_i64 T f) a b) c = opw z (rd_Ls_i64 T f) a (opw z (rd_Ls_i64 T f) b c)) z hz (fun k i => spec_l24Blind.l1 k f a i z T) ?_ ?_ hF)
    · intro b hj hwb hT2 hF2
      refine Wp.step (fun k => by rw [spec_l24Blind.l1]) ?_
      have rab := opw_rng h (a := a) (b := b) (by omega) (by omega)
      refine Wp.itet (by omega) (Wp.bindE (twoW_ev hf h (by omega) (by omega)) (Wp.bindE (twoW_ev hf h (by omega) (by omega)) (Wp.ite (fun hab => ?_) (fun hab => Wp.ret (hF2 (fun h => hab h.1))))))
      refine Wp.allP (Φ := fun c => opw z (rd_Ls_i64 T f) (opw z (rd_Ls_i64 T f) a b) c = opw z (rd_Ls_i64 T f) a (opw z (rd_Ls_i64 T f) b c)) z hz (fun k i => spec_l24Blind.l2 k f a b i z T) ?_ ?_ (fun h3 => hF2 (fun h => h3 h.2))
      · intro c hc hwc hT3 hF3
        refine Wp.step (fun k => by rw [spec_l24Blind.l2]) ?_
        have rbc := opw_rng h (a := b) (b := c) (by omega) (by omega)
        rw [hwc.e]
        exact Wp.itet (by omega) (Wp.bindE (twoW_ev hf h (by omega) (by omega)) (Wp.bindE (twoW_ev hf h rab (by omega)) (Wp.bindE (twoW_ev hf h (by omega) (by omega)) (Wp.bindE (twoW_ev hf h (by omega) rbc) (Wp.ite (fun he => hT3 he) (fun he => Wp.ret (hF3 he)))))))
      · intro hall
        refine Wp.step (fun k => by rw [spec_l24Blind.l2]) ?_
        rw [hwb.e]
        exact Wp.itef (by omega) (hT2 ⟨hab, hall⟩)
    · intro hall
      refine Wp.step (fun k => by rw [spec_l24Blind.l1]) ?_
      rw [hw.e]
      exact Wp.itef (by omega) (hT hall)
  · intro _
    refine Wp.step (fun k => by rw [spec_l24Blind.l0]) ?_
    exact Wp.itef (by omega) (Wp.ret (eqB.2 ⟨fun _ => trivial, fun _ => rfl⟩))
  · constructor
    · rintro ⟨hh, _⟩ a ha b hb c hc
      exact ⟨(hh a ha b hb).1, (hh a ha b hb).2 c hc⟩
    · intro hh
      have hz1 := h.1.1
      exact ⟨fun a ha b hb => ⟨(hh a ha b hb 0 (by omega)).1, fun c hc => (hh a ha b hb c hc).2⟩, trivial⟩
theorem spec_WorldOk_ev (s : List I_Sym) (z : Int) (T : List (List Int)) (hs : Names s) (hT : Rows T) : Ev (fun k => spec_WorldOk.f k s z T) (B (0 ≤ z ∧ WorldOk s z.toNat T)) := by
  refine Wp.ev ?_
  unfold spec_WorldOk.f
  refine Wp.bindE (spec_SigOk_ev s hs) (Wp.iteB (fun h1 => Wp.bindE (spec_l1In_ev _ _ _) (Wp.iteB (fun hz => Wp.ite (fun h2 => ?_) (fun h2 => Wp.ret ?_)) (fun hz => Wp.ret ?_))) (fun h1 => Wp.ret ?_))
  · obtain ⟨z, rfl⟩ : ∃ n : Nat, z = n := ⟨z.toNat, by omega⟩
    refine ((Wp.all (Φ := fun i => RowOk s z T i) (Ψ := True) s.length hs.1 (fun k i => spec_WorldOk.l0 k s i z T) ?_ ?_).val ?_).wp rfl
    · intro i P hi hw hT' hF
      refine Wp.step (fun k => by rw [spec_WorldOk.l0]) ?_
      have hrow := hT _ (rdRow_mem (T := T) (i := i) (by omega) (by omega))
      have sig := h1.1 i hi
      have s0 := sig.2.2.1
      obtain ⟨a, ha⟩ : ∃ a : Nat, (rd_I_Sym s i).f1 = a := ⟨(rd_I_Sym s i).f1.toNat, by omega⟩
      have hpw : Ev (fun k => spec_l24Power.f k z (rd_I_Sym s i).f1) ((z ^ (rd_I_Sym s i).f1.toNat : Nat) : Int) := by
        rw [ha]; exact spec_l24Power_ev z (by omega) a (by omega)
      refine Wp.itet (by omega) (Wp.itet (Int.natCast_nonneg _) (Wp.itet (by omega) (Wp.bindE hpw (Wp.ite (fun h3 => ?_) (fun h3 => Wp.ret (hF (fun h => h3 (by rw [h.1]))))))))
      have ew : wrap64 ((z : Int) - 1) = (z : Int) - 1 := wrap_id (by omega) (by omega)
      refine Wp.allP (Φ := fun j => 0 ≤ rd (rd_Ls_i64 T i) j ∧ rd (rd_Ls_i64 T i) j ≤ (z : Int) - 1) (rd_Ls_i64 T i).length hrow (fun k j => spec_WorldOk.l1 k s i j z T) ?_ ?_ ?_
      · intro j hj hwj hT2 hF2
        refine Wp.step (fun k => by rw [spec_WorldOk.l1]) ?_
        rw [hwj.e, ew]
        exact Wp.itet (Int.natCast_nonneg _) (Wp.itet (by omega) (Wp.itet (by omega) (Wp.itet (Int.natCast_nonneg _) (Wp.bindE (spec_l1In_ev _ _ _) (Wp.iteB (fun h => hT2 h) (fun h => Wp.ret (hF2 h)))))))
      · intro hall
        refine Wp.step (fun k => by rw [spec_WorldOk.l1]) ?_
        have hR : InR z (rd_Ls_i64 T i) := inR_rd.2 (fun ⟨j, hj, hn⟩ => hn (hall j hj))
        rw [hw.e]
        refine Wp.itet (Int.natCast_nonneg _) (Wp.itet (by omega) (Wp.itef (by omega) (Wp.itet (by omega) (Wp.ite (fun hac => ?_) (fun hac => hT' ⟨by omega, hR, fun h => absurd h hac⟩)))))
        have sq : Sq z (rd_Ls_i64 T i) := by
          refine ⟨by omega, ?_, hR⟩
          have e2 := sig.2.2.2 hac
          rw [e2] at h3
          have h3' : (rd_Ls_i64 T i).length = z ^ 2 := by exact Int.ofNat.inj h3
          rw [h3', Nat.pow_two]
        exact Wp.bindE (spec_l24Blind_ev (by omega) sq) (Wp.iteB (fun h => hT' ⟨by omega, hR, fun _ => h⟩) (fun h => Wp.ret (hF (fun h2 => h (h2.2.2 hac)))))
      · intro hn
        refine hF (fun h => hn (fun j hj => ?_))
        have := h.2.1 _ (rd_mem (t := rd_Ls_i64 T i) (i := j) (by omega) (by omega))
        omega
    · intro _
      refine Wp.step (fun k => by rw [spec_WorldOk.l0]) ?_
      exact Wp.itef (by omega) (Wp.ret (eqB.2 ⟨fun _ => trivial, fun _ => rfl⟩))
    · exact B_congr ⟨fun h => ⟨by omega, h1, by omega, by omega, h.1⟩, fun h => ⟨h.2.2.2.2, trivial⟩⟩
  · exact eqB.2 ⟨fun h => absurd h (by decide), fun h => absurd h.2.2.2.1 (by omega)⟩
  · exact eqB.2 ⟨fun h => absurd h (by decide), fun h => by have := h.2.2.1; exact absurd (by omega) hz⟩
  · exact eqB.2 ⟨fun h => absurd h (by decide), fun h => absurd h.2.1 h1⟩
/-! #### places and arguments -/
def dgs (z : Nat) : Nat → Nat → List Nat
  | 0, _ => []
  | r + 1, k => k % z :: dgs z r (k / z)
def plc (z : Nat) : List Nat → Nat
  | [] => 0
  | d :: l => d + z * plc z l
def ofN (l : List Nat) : List Int := l.map fun (n : Nat) => (n : Int)
theorem ofN_len (l : List Nat) : (ofN l).length = l.length := List.length_map ..
theorem ofN_rd {l : List Nat} {i : Nat} (h : i < l.length) : rd (ofN l) (i : Int) = ((l.getD i 0 : Nat) : Int) := by
  show (ofN l).getD (i : Int).toNat 0 = _
  rw [Int.toNat_natCast, List.getD_eq_getElem?_getD, List.getD_eq_getElem?_getD, ofN, List.getElem?_map, List.getElem?_eq_getElem h]
  rfl
theorem dgs_len (z r k : Nat) : (dgs z r k).length = r := by
  induction r generalizing k with
  | zero => rfl
  | succ r ih => rw [dgs, List.length_cons, ih]
theorem dgs_lt {z : Nat} (hz : 0 < z) : ∀ (r k : Nat), ∀ d ∈ dgs z r k, d < z := by
  intro r
  induction r with
  | zero => intro k d hd; cases hd
  | succ r ih =>
    intro k d hd
    rcases List.mem_cons.1 hd with rfl | hd
    · exact Nat.mod_lt _ hz
    · exact ih _ d hd
theorem plc_lt {z : Nat} (hz : 0 < z) : ∀ (l : List Nat), (∀ d ∈ l, d < z) → plc z l < z ^ l.length := by
  intro l
  induction l with
  | nil => intro _; simp [plc]
  | cons d l ih =>
    intro h
    have h1 := h d List.mem_cons_self
    have h2 := ih (fun x hx => h x (List.mem_cons_of_mem _ hx))
    rw [plc, List.length_cons, Nat.pow_succ, Nat.mul_comm (z ^ l.length)]
    have : z * (plc z l + 1) ≤ z * z ^ l.length := Nat.mul_le_mul_left _ h2
    rw [Nat.mul_add] at this
    omega
theorem plc_dgs {z : Nat} (hz : 0 < z) : ∀ (r k : Nat), k < z ^ r → plc z (dgs z r k) = k := by
  intro r
  induction r with
  | zero => intro k h; simp at h; subst h; rfl
  | succ r ih =>
    intro k h
    rw [dgs, plc, ih]
    · exact Nat.mod_add_div k z
    · rw [Nat.pow_succ] at h
      exact Nat.div_lt_of_lt_mul (by rw [Nat.mul_comm]; exact h)
theorem dgs_plc {z : Nat} (hz : 0 < z) : ∀ (l : List Nat), (∀ d ∈ l, d < z) → dgs z l.length (plc z l) = l := by
  intro l
  induction l with
  | nil => intro _; rfl
  | cons d l ih =>
    intro h
    have h1 := h d List.mem_cons_self
    rw [List.length_cons, dgs, plc, Nat.add_mul_mod_self_left, Nat.mod_eq_of_lt h1, Nat.add_mul_div_left _ _ hz, Nat.div_eq_of_lt h1, Nat.zero_add, ih (fun x hx => h x (List.mem_cons_of_mem _ hx))]
theorem pow64 {z r : Nat} (hz : z ≤ 4) (hr : r ≤ 3) : z ^ r ≤ 64 := by
  have h1 : z ^ r ≤ 4 ^ r := Nat.pow_le_pow_left hz r
  have h2 : 4 ^ r ≤ 4 ^ 3 := Nat.pow_le_pow_right (by omega) hr
  omega
theorem tmod_nat (a b : Nat) : Int.tmod (a : Int) (b : Int) = ((a % b : Nat) : Int) := by
  rw [Int.tmod_eq_emod_of_nonneg (by omega)]; exact (Int.natCast_emod a b).symm
theorem tdiv_nat (a b : Nat) : Int.tdiv (a : Int) (b : Int) = ((a / b : Nat) : Int) := by
  rw [Int.tdiv_eq_ediv_of_nonneg (by omega)]; exact (Int.natCast_ediv a b).symm
theorem wrN {m : Nat} (h : m ≤ 1000000000000) : wrap64 (m : Int) = (m : Int) := wrap_id (by omega) (by omega)
theorem impl_digitsOf_ev (z : Nat) (hz : 1 ≤ z) (k : Nat) (hk : k ≤ 1000000000) (r : Nat) (hr : r ≤ 3) : Ev (fun q => impl_digitsOf.f q (k : Int) (z : Int) (r : Int)) (ofN (dgs z r k)) := by
  unfold impl_digitsOf.f
  refine Wp.ev (Wp.cnt2 r (by omega) (fun q i x0 acc => impl_digitsOf.l0 q x0 z acc r i) (fun i x0 acc => ∃ n : Nat, x0 = n ∧ n ≤ k ∧ acc.length = i ∧ acc ++ ofN (dgs z (r - i) n) = ofN (dgs z r k)) ?_ ?_ (k : Int) ([] : List Int) ⟨k, rfl, Nat.le_refl _, rfl, by simp⟩)
  · rintro i x0 acc hi hw ⟨n, rfl, hn, hl, he⟩ ih
    refine Wp.step (fun k => by rw [impl_digitsOf.l0]) ?_
    have hd : wrap64 ((n / z : Nat) : Int) = ((n / z : Nat) : Int) := wrN (Nat.le_trans (Nat.div_le_self n z) (by omega))
    simp only [hw.e, tmod_nat, tdiv_nat, hd]
    refine Wp.itet (by omega) (Wp.itef (by omega) (Wp.itet (by rw [hl]; simp; omega) ?_))
    refine ih _ _ ⟨n / z, rfl, Nat.le_trans (Nat.div_le_self _ _) hn, by simp [hl], ?_⟩
    rw [← he, show r - i = (r - (i + 1)) + 1 from by omega, dgs]
    simp [ofN]
  · rintro x0 acc ⟨n, rfl, _, hl, he⟩
    refine Wp.step (fun k => by rw [impl_digitsOf.l0]) ?_
    refine Wp.itef (by omega) (Wp.ret ?_)
    rw [Nat.sub_self, dgs] at he
    simpa [ofN] using he
theorem impl_placeOf_ev (z : Nat) (hz : 1 ≤ z ∧ z ≤ 4) (l : List Nat) (hl : l.length ≤ 3) (h : ∀ d ∈ l, d < z) : Ev (fun q => impl_placeOf.f q (ofN l) (z : Int)) ((plc z l : Nat) : Int) := by
  unfold impl_placeOf.f
  have key : ∀ (j : Nat), j ≤ l.length → Wp (fun q => impl_placeOf.l0 q (ofN l) z ((plc z (l.drop j) : Nat) : Int) ((j : Int) - 1)) (fun r => r = ((plc z l : Nat) : Int)) := by
    intro j
    induction j with
    | zero =>
      intro _
      refine Wp.step (fun k => by rw [impl_placeOf.l0]) ?_
      refine Wp.itef (by omega) (Wp.ret ?_)
      rw [List.drop_zero]
    | succ j ih =>
      intro hj
      refine Wp.step (fun k => by rw [impl_placeOf.l0]) ?_
      have hdr : l.drop j = l.getD j 0 :: l.drop (j + 1) := by
        rw [List.drop_eq_getElem_cons (by omega), List.getD_eq_getElem?_getD, List.getElem?_eq_getElem (by omega)]; rfl
      have hb := plc_lt (by omega : 0 < z) (l.drop (j + 1)) (fun d hd => h d (List.mem_of_mem_drop hd))
      have hb2 := plc_lt (by omega : 0 < z) (l.drop j) (fun d hd => h d (List.mem_of_mem_drop hd))
      have hp : z ^ (l.drop (j + 1)).length ≤ 64 := pow64 hz.2 (by rw [List.length_drop]; omega)
      have hp2 : z ^ (l.drop j).length ≤ 64 := pow64 hz.2 (by rw [List.length_drop]; omega)
      have e1 : ((j + 1 : Nat) : Int) - 1 = (j : Int) := by omega
      rw [e1]
      have hm : ((plc z (l.drop (j + 1)) : Nat) : Int) * (z : Int) = ((plc z (l.drop (j + 1)) * z : Nat) : Int) := by rw [Int.natCast_mul]
      have hle : plc z (l.drop (j + 1)) * z ≤ 64 * 4 := Nat.mul_le_mul (by omega) hz.2
      have w1 : wrap64 (((plc z (l.drop (j + 1)) : Nat) : Int) * (z : Int)) = ((plc z (l.drop (j + 1)) * z : Nat) : Int) := by rw [hm]; exact wrap_id (by omega) (by omega)
      have hrd : rd (ofN l) (j : Int) = ((l.getD j 0 : Nat) : Int) := ofN_rd (by omega)
      have hpl : plc z (l.drop j) = plc z (l.drop (j + 1)) * z + l.getD j 0 := by rw [hdr, plc, Nat.mul_comm]; omega
      have w2 : wrap64 (((plc z (l.drop (j + 1)) * z : Nat) : Int) + ((l.getD j 0 : Nat) : Int)) = ((plc z (l.drop j) : Nat) : Int) := by
        rw [← Int.natCast_add, ← hpl]; exact wrap_id (by omega) (by omega)
      have w3 : wrap64 ((j : Int) - 1) = (j : Int) - 1 := wrap_id (by omega) (by omega)
      simp only [w1, hrd, w2, w3]
      exact Wp.itet (by omega) (Wp.itet (by omega) (Wp.itet (by rw [ofN_len]; omega) (ih (by omega))))
  have w0 : wrap64 (((ofN l).length : Int) - 1) = ((l.length : Nat) : Int) - 1 := by rw [ofN_len]; exact wrap_id (by omega) (by omega)
  simp only [w0]
  have := key l.length (Nat.le_refl _)
  rw [List.drop_length] at this
  exact Wp.ev this
theorem take_snoc {f : Nat → Nat} {l : List Nat} {i : Nat} (h : i < l.length) : ofN ((l.take i).map f) ++ [((f (l.getD i 0) : Nat) : Int)] = ofN ((l.take (i + 1)).map f) := by
  have e : l.take (i + 1) = l.take i ++ [l.getD i 0] := by
    rw [List.take_add_one, List.getElem?_eq_getElem h, List.getD_eq_getElem?_getD, List.getElem?_eq_getElem h]
    rfl
  rw [e]
  simp [ofN]
theorem rdW (x : I_World) : rd_I_World ([x] : List I_World) 0 = x := rfl
theorem impl_each1_1_ev (a : Nat) (ha : 1 ≤ a) (T : List (List Int)) (l : List Nat) (hl : l.length ≤ 3) : Ev (fun q => impl_each1__impl_Product_1_1.f q (ofN l) ([⟨(a : Int), T⟩] : List I_World) 0) (ofN (l.map fun d => d % a)) := by
  unfold impl_each1__impl_Product_1_1.f
  rw [ofN_len]
  refine Wp.ev (Wp.cnt1 l.length (by omega) (fun q i acc => impl_each1__impl_Product_1_1.l0 q ([⟨(a : Int), T⟩] : List I_World) 0 acc (ofN l) l.length i) (fun i acc => acc = ofN ((l.take i).map fun d => d % a)) ?_ ?_ ([] : List Int) (by simp [ofN]))
  · rintro i acc hi hw rfl ih
    refine Wp.step (fun k => by rw [impl_each1__impl_Product_1_1.l0]) ?_
    have hf : impl_Product_1_1_v2.f (rd (ofN l) (i : Int)) ([⟨(a : Int), T⟩] : List I_World) 0 = some (((l.getD i 0 % a : Nat)) : Int) := by
      unfold impl_Product_1_1_v2.f
      rw [ofN_rd hi]
      show (if (a : Int) = 0 then none else some (Int.tmod _ (a : Int))) = _
      rw [if_neg (by omega), tmod_nat]
    simp only [hw.e]
    refine Wp.itet (by omega) (Wp.itet (by omega) (Wp.itet (by rw [ofN_len]; omega) (Wp.bindE (Ev.cst hf) (Wp.itet (by rw [ofN_len]; simp; omega) ?_))))
    exact ih _ (take_snoc hi)
  · rintro acc rfl
    refine Wp.step (fun k => by rw [impl_each1__impl_Product_1_1.l0]) ?_
    refine Wp.itef (by omega) (Wp.ret ?_)
    rw [List.take_length]
theorem impl_each1_2_ev (a : Nat) (ha : 1 ≤ a) (T : List (List Int)) (l : List Nat) (hl : l.length ≤ 3) (hd : ∀ d ∈ l, d ≤ 1000) : Ev (fun q => impl_each1__impl_Product_1_2.f q (ofN l) ([⟨(a : Int), T⟩] : List I_World) 0) (ofN (l.map fun d => d / a)) := by
  unfold impl_each1__impl_Product_1_2.f
  rw [ofN_len]
  refine Wp.ev (Wp.cnt1 l.length (by omega) (fun q i acc => impl_each1__impl_Product_1_2.l0 q ([⟨(a : Int), T⟩] : List I_World) 0 acc (ofN l) l.length i) (fun i acc => acc = ofN ((l.take i).map fun d => d / a)) ?_ ?_ ([] : List Int) (by simp [ofN]))
  · rintro i acc hi hw rfl ih
    refine Wp.step (fun k => by rw [impl_each1__impl_Product_1_2.l0]) ?_
    have hm : l.getD i 0 ≤ 1000 := by
      rw [List.getD_eq_getElem?_getD, List.getElem?_eq_getElem hi]
      exact hd _ (List.getElem_mem hi)
    have hf : impl_Product_1_2_v2.f (rd (ofN l) (i : Int)) ([⟨(a : Int), T⟩] : List I_World) 0 = some (((l.getD i 0 / a : Nat)) : Int) := by
      unfold impl_Product_1_2_v2.f
      rw [ofN_rd hi]
      show (if (a : Int) = 0 then none else some (wrap64 (Int.tdiv _ (a : Int)))) = _
      rw [if_neg (by omega), tdiv_nat, wrN (Nat.le_trans (Nat.div_le_self _ a) (by omega))]
    simp only [hw.e]
    refine Wp.itet (by omega) (Wp.itet (by omega) (Wp.itet (by rw [ofN_len]; omega) (Wp.bindE (Ev.cst hf) (Wp.itet (by rw [ofN_len]; simp; omega) ?_))))
    exact ih _ (take_snoc hi)
  · rintro acc rfl
    refine Wp.step (fun k => by rw [impl_each1__impl_Product_1_2.l0]) ?_
    refine Wp.itef (by omega) (Wp.ret ?_)
    rw [List.take_length]
/-- how many arguments -/
noncomputable def ar (s : List I_Sym) (f : Nat) : Nat := (rd_I_Sym s f).f1.toNat
/-- tables, row by row -/
noncomputable def tab (s : List I_Sym) (z : Nat) (val : Nat → Nat → Int) : List (List Int) := (List.range s.length).map fun f => (List.range (z ^ ar s f)).map (val f)
theorem range_snoc {α : Type} (g : Nat → α) (n : Nat) : (List.range n).map g ++ [g n] = (List.range (n + 1)).map g := by rw [List.range_succ, List.map_append]; rfl
theorem tabled_Product_ev (s : List I_Sym) (hs : s.length ≤ 1000000000) (har : ∀ i, i < s.length → 0 ≤ (rd_I_Sym s i).f1 ∧ (rd_I_Sym s i).f1 ≤ 3) (z : Nat) (hz : 1 ≤ z ∧ z ≤ 4) (X Y : List I_World) (val : Nat → Nat → Int)
    (hv : ∀ f, f < s.length → ∀ k, k < z ^ ar s f → Ev (fun q => impl_Product_1_v2.f q (f : Int) (ofN (dgs z (ar s f) k)) X 0 Y 0) (val f k)) : Ev (fun q => impl_tabled__impl_Product_1.f q s (z : Int) X 0 Y 0) ((z : Int), tab s z val) := by
  unfold impl_tabled__impl_Product_1.f
  refine Wp.ev (Wp.cnt1 s.length hs (fun q i T => impl_tabled__impl_Product_1.l0 q (z : Int) X 0 Y 0 s (s.length : Int) i 0 (z : Int) T) (fun i T => T = (List.range i).map fun f => (List.range (z ^ ar s f)).map (val f)) ?_ ?_ ([] : List (List Int)) rfl)
  · rintro i T hi hw rfl ih
    refine Wp.step (fun k => by rw [impl_tabled__impl_Product_1.l0]) ?_
    obtain ⟨a0, a3⟩ := har i hi
    have ha : ((ar s i : Nat) : Int) = (rd_I_Sym s (i : Int)).f1 := Int.toNat_of_nonneg a0
    have h3 : ar s i ≤ 3 := by omega
    have h64 := pow64 hz.2 h3
    refine Wp.itet (by omega) (Wp.itet (by omega) (Wp.itet (by omega) (Wp.bindE (impl_placesOf_ev z hz _ ⟨a0, a3⟩) ?_)))
    show Wp (fun q => impl_tabled__impl_Product_1.l1 q (z : Int) X 0 Y 0 (i : Int) ([] : List Int) s (s.length : Int) (i : Int) ((z ^ ar s i : Nat) : Int) 0 0 (z : Int) ((List.range i).map fun f => (List.range (z ^ ar s f)).map (val f)) (rd_I_Sym s (i : Int)).f0 (rd_I_Sym s (i : Int)).f1 (rd_I_Sym s (i : Int)).f2) _
    refine Wp.cnt1 (z ^ ar s i) (by omega) (fun q k row => impl_tabled__impl_Product_1.l1 q (z : Int) X 0 Y 0 (i : Int) row s (s.length : Int) (i : Int) ((z ^ ar s i : Nat) : Int) k 0 (z : Int) ((List.range i).map fun f => (List.range (z ^ ar s f)).map (val f)) (rd_I_Sym s (i : Int)).f0 (rd_I_Sym s (i : Int)).f1 (rd_I_Sym s (i : Int)).f2) (fun k row => row = (List.range k).map (val i)) ?_ ?_ ([] : List Int) rfl
    · rintro k row hk hwk rfl ih2
      refine Wp.step (fun k => by rw [impl_tabled__impl_Product_1.l1]) ?_
      have hd := impl_digitsOf_ev z hz.1 k (by omega) (ar s i) h3
      rw [ha] at hd
      simp only [hwk.e]
      refine Wp.itet (by omega) (Wp.bindE hd (Wp.bindE (hv i hi k hk) (Wp.itet (by simp; omega) ?_)))
      exact ih2 _ (range_snoc _ _)
    · rintro row rfl
      refine Wp.step (fun k => by rw [impl_tabled__impl_Product_1.l1]) ?_
      simp only [hw.e]
      refine Wp.itef (by omega) (Wp.itet (by simp; omega) ?_)
      exact ih _ (range_snoc (fun f => (List.range (z ^ ar s f)).map (val f)) i)
  · rintro T rfl
    refine Wp.step (fun k => by rw [impl_tabled__impl_Product_1.l0]) ?_
    exact Wp.itef (by omega) (Wp.ret rfl)
theorem tabled_Renamed_ev (s : List I_Sym) (hs : s.length ≤ 1000000000) (har : ∀ i, i < s.length → 0 ≤ (rd_I_Sym s i).f1 ∧ (rd_I_Sym s i).f1 ≤ 3) (z : Nat) (hz : 1 ≤ z ∧ z ≤ 4) (X : List (List Int)) (Y : List I_World) (val : Nat → Nat → Int)
    (hv : ∀ f, f < s.length → ∀ k, k < z ^ ar s f → Ev (fun q => impl_Renamed_1_v2.f q (f : Int) (ofN (dgs z (ar s f) k)) X 0 Y 0) (val f k)) : Ev (fun q => impl_tabled__impl_Renamed_1.f q s (z : Int) X 0 Y 0) ((z : Int), tab s z val) := by
  unfold impl_tabled__impl_Renamed_1.f
  refine Wp.ev (Wp.cnt1 s.length hs (fun q i T => impl_tabled__impl_Renamed_1.l0 q (z : Int) X 0 Y 0 s (s.length : Int) i 0 (z : Int) T) (fun i T => T = (List.range i).map fun f => (List.range (z ^ ar s f)).map (val f)) ?_ ?_ ([] : List (List Int)) rfl)
  · rintro i T hi hw rfl ih
    refine Wp.step (fun k => by rw [impl_tabled__impl_Renamed_1.l0]) ?_
    obtain ⟨a0, a3⟩ := har i hi
    have ha : ((ar s i : Nat) : Int) = (rd_I_Sym s (i : Int)).f1 := Int.toNat_of_nonneg a0
    have h3 : ar s i ≤ 3 := by omega
    have h64 := pow64 hz.2 h3
    refine Wp.itet (by omega) (Wp.itet (by omega) (Wp.itet (by omega) (Wp.bindE (impl_placesOf_ev z hz _ ⟨a0, a3⟩) ?_)))
    show Wp (fun q => impl_tabled__impl_Renamed_1.l1 q (z : Int) X 0 Y 0 (i : Int) ([] : List Int) s (s.length : Int) (i : Int) ((z ^ ar s i : Nat) : Int) 0 0 (z : Int) ((List.range i).map fun f => (List.range (z ^ ar s f)).map (val f)) (rd_I_Sym s (i : Int)).f0 (rd_I_Sym s (i : Int)).f1 (rd_I_Sym s (i : Int)).f2) _
    refine Wp.cnt1 (z ^ ar s i) (by omega) (fun q k row => impl_tabled__impl_Renamed_1.l1 q (z : Int) X 0 Y 0 (i : Int) row s (s.length : Int) (i : Int) ((z ^ ar s i : Nat) : Int) k 0 (z : Int) ((List.range i).map fun f => (List.range (z ^ ar s f)).map (val f)) (rd_I_Sym s (i : Int)).f0 (rd_I_Sym s (i : Int)).f1 (rd_I_Sym s (i : Int)).f2) (fun k row => row = (List.range k).map (val i)) ?_ ?_ ([] : List Int) rfl
    · rintro k row hk hwk rfl ih2
      refine Wp.step (fun k => by rw [impl_tabled__impl_Renamed_1.l1]) ?_
      have hd := impl_digitsOf_ev z hz.1 k (by omega) (ar s i) h3
      rw [ha] at hd
      simp only [hwk.e]
      refine Wp.itet (by omega) (Wp.bindE hd (Wp.bindE (hv i hi k hk) (Wp.itet (by simp; omega) ?_)))
      exact ih2 _ (range_snoc _ _)
    · rintro row rfl
      refine Wp.step (fun k => by rw [impl_tabled__impl_Renamed_1.l1]) ?_
      simp only [hw.e]
      refine Wp.itef (by omega) (Wp.itet (by simp; omega) ?_)
      exact ih _ (range_snoc (fun f => (List.range (z ^ ar s f)).map (val f)) i)
  · rintro T rfl
    refine Wp.step (fun k => by rw [impl_tabled__impl_Renamed_1.l0]) ?_
    exact Wp.itef (by omega) (Wp.ret rfl)
theorem tabled_Subworld_ev (s : List I_Sym) (hs : s.length ≤ 1000000000) (har : ∀ i, i < s.length → 0 ≤ (rd_I_Sym s i).f1 ∧ (rd_I_Sym s i).f1 ≤ 3) (z : Nat) (hz : 1 ≤ z ∧ z ≤ 4) (X : List I_World) (val : Nat → Nat → Int)
    (hv : ∀ f, f < s.length → ∀ k, k < z ^ ar s f → Ev (fun q => impl_Subworld_1_v2.f q (f : Int) (ofN (dgs z (ar s f) k)) X 0) (val f k)) : Ev (fun q => impl_tabled__impl_Subworld_1.f q s (z : Int) X 0) ((z : Int), tab s z val) := by
  unfold impl_tabled__impl_Subworld_1.f
  refine Wp.ev (Wp.cnt1 s.length hs (fun q i T => impl_tabled__impl_Subworld_1.l0 q (z : Int) X 0 s (s.length : Int) i 0 (z : Int) T) (fun i T => T = (List.range i).map fun f => (List.range (z ^ ar s f)).map (val f)) ?_ ?_ ([] : List (List Int)) rfl)
  · rintro i T hi hw rfl ih
    refine Wp.step (fun k => by rw [impl_tabled__impl_Subworld_1.l0]) ?_
    obtain ⟨a0, a3⟩ := har i hi
    have ha : ((ar s i : Nat) : Int) = (rd_I_Sym s (i : Int)).f1 := Int.toNat_of_nonneg a0
    have h3 : ar s i ≤ 3 := by omega
    have h64 := pow64 hz.2 h3
    refine Wp.itet (by omega) (Wp.itet (by omega) (Wp.itet (by omega) (Wp.bindE (impl_placesOf_ev z hz _ ⟨a0, a3⟩) ?_)))
    show Wp (fun q => impl_tabled__impl_Subworld_1.l1 q (z : Int) X 0 (i : Int) ([] : List Int) s (s.length : Int) (i : Int) ((z ^ ar s i : Nat) : Int) 0 0 (z : Int) ((List.range i).map fun f => (List.range (z ^ ar s f)).map (val f)) (rd_I_Sym s (i : Int)).f0 (rd_I_Sym s (i : Int)).f1 (rd_I_Sym s (i : Int)).f2) _
    refine Wp.cnt1 (z ^ ar s i) (by omega) (fun q k row => impl_tabled__impl_Subworld_1.l1 q (z : Int) X 0 (i : Int) row s (s.length : Int) (i : Int) ((z ^ ar s i : Nat) : Int) k 0 (z : Int) ((List.range i).map fun f => (List.range (z ^ ar s f)).map (val f)) (rd_I_Sym s (i : Int)).f0 (rd_I_Sym s (i : Int)).f1 (rd_I_Sym s (i : Int)).f2) (fun k row => row = (List.range k).map (val i)) ?_ ?_ ([] : List Int) rfl
    · rintro k row hk hwk rfl ih2
      refine Wp.step (fun k => by rw [impl_tabled__impl_Subworld_1.l1]) ?_
      have hd := impl_digitsOf_ev z hz.1 k (by omega) (ar s i) h3
      rw [ha] at hd
      simp only [hwk.e]
      refine Wp.itet (by omega) (Wp.bindE hd (Wp.bindE (hv i hi k hk) (Wp.itet (by simp; omega) ?_)))
      exact ih2 _ (range_snoc _ _)
    · rintro row rfl
      refine Wp.step (fun k => by rw [impl_tabled__impl_Subworld_1.l1]) ?_
      simp only [hw.e]
      refine Wp.itef (by omega) (Wp.itet (by simp; omega) ?_)
      exact ih _ (range_snoc (fun f => (List.range (z ^ ar s f)).map (val f)) i)
  · rintro T rfl
    refine Wp.step (fun k => by rw [impl_tabled__impl_Subworld_1.l0]) ?_
    exact Wp.itef (by omega) (Wp.ret rfl)
/-- what the product is at a place -/
def prodVal (a b : Nat) (Ta Tb : List (List Int)) (f : Nat) (ds : List Nat) : Int := rd (rd_Ls_i64 Ta f) ((plc a (ds.map fun d => d % a) : Nat) : Int) + (a : Int) * rd (rd_Ls_i64 Tb f) ((plc b (ds.map fun d => d / a) : Nat) : Int)
theorem inR_at {z : Nat} {t : List Int} (h : InR z t) {i : Int} (h0 : 0 ≤ i) (h1 : i < (t.length : Int)) : 0 ≤ rd t i ∧ rd t i < (z : Int) := h _ (rd_mem h0 h1)
theorem mods_lt {a : Nat} (ha : 1 ≤ a) (l : List Nat) : ∀ d ∈ l.map (fun d => d % a), d < a := by
  intro d hd
  obtain ⟨x, _, rfl⟩ := List.mem_map.1 hd
  exact Nat.mod_lt _ ha
theorem divs_lt {a b : Nat} (l : List Nat) (h : ∀ d ∈ l, d < a * b) : ∀ d ∈ l.map (fun d => d / a), d < b := by
  intro d hd
  obtain ⟨x, hx, rfl⟩ := List.mem_map.1 hd
  exact Nat.div_lt_of_lt_mul (h x hx)
theorem impl_Product_1_ev {a b : Nat} (ha : 1 ≤ a) (hb : 1 ≤ b) (hab : a * b ≤ 4) {Ta Tb : List (List Int)} {f : Nat} (hfa : f < Ta.length) (hfb : f < Tb.length) (ds : List Nat) (hl : ds.length ≤ 3) (hd : ∀ d ∈ ds, d < a * b)
    (h1 : (rd_Ls_i64 Ta f).length = a ^ ds.length) (h2 : InR a (rd_Ls_i64 Ta f)) (h3 : (rd_Ls_i64 Tb f).length = b ^ ds.length) (h4 : InR b (rd_Ls_i64 Tb f)) :
    Ev (fun q => impl_Product_1_v2.f q (f : Int) (ofN ds) ([⟨(a : Int), Ta⟩] : List I_World) 0 ([⟨(b : Int), Tb⟩] : List I_World) 0) (prodVal a b Ta Tb f ds) := by
  have ha4 : a ≤ 4 := Nat.le_trans (Nat.le_mul_of_pos_right a hb) hab
  have hb4 : b ≤ 4 := Nat.le_trans (Nat.le_mul_of_pos_left b ha) hab
  have p1 := plc_lt ha _ (mods_lt ha ds)
  have p2 := plc_lt hb _ (divs_lt ds hd)
  rw [List.length_map] at p1 p2
  have r1 := inR_at h2 (i := ((plc a (ds.map fun d => d % a) : Nat) : Int)) (by omega) (by rw [h1]; omega)
  have r2 := inR_at h4 (i := ((plc b (ds.map fun d => d / a) : Nat) : Int)) (by omega) (by rw [h3]; omega)
  unfold impl_Product_1_v2.f
  simp only [rdW]
  refine Wp.ev (Wp.itet (by omega) (Wp.itet (by omega) (Wp.bindE (impl_each1_1_ev a ha Ta ds hl) (Wp.bindE (impl_placeOf_ev a ⟨ha, ha4⟩ _ (by rw [List.length_map]; exact hl) (mods_lt ha ds)) (Wp.itet (by omega) (Wp.itet (by rw [h1]; omega) (Wp.itet (by omega) (Wp.bindE (impl_each1_2_ev a ha Ta ds hl (fun d h => by have := hd d h; omega)) (Wp.bindE (impl_placeOf_ev b ⟨hb, hb4⟩ _ (by rw [List.length_map]; exact hl) (divs_lt ds hd)) (Wp.itet (by omega) (Wp.itet (by rw [h3]; omega) (Wp.ret ?_))))))))))))
  have hm : 0 ≤ (a : Int) * rd (rd_Ls_i64 Tb f) ((plc b (ds.map fun d => d / a) : Nat) : Int) := Int.mul_nonneg (by omega) r2.1
  have hm2 : (a : Int) * rd (rd_Ls_i64 Tb f) ((plc b (ds.map fun d => d / a) : Nat) : Int) ≤ (a : Int) * (b : Int) := Int.mul_le_mul_of_nonneg_left (by omega) (by omega)
  have hab' : (a : Int) * (b : Int) ≤ 4 := by rw [← Int.natCast_mul]; omega
  rw [wrap_id (x := (a : Int) * _) (by omega) (by omega), wrap_id (by omega) (by omega)]
  rfl
theorem plc_snoc (z : Nat) (l : List Nat) (d : Nat) : plc z (l ++ [d]) = plc z l + z ^ l.length * d := by
  induction l with
  | nil => simp [plc]
  | cons x l ih => rw [List.cons_append, plc, ih, plc, List.length_cons, Nat.pow_succ, Nat.mul_add, ← Nat.mul_assoc, Nat.mul_comm (z ^ l.length) z, Nat.add_assoc]
theorem rd_tab {s : List I_Sym} {z f : Nat} {val : Nat → Nat → Int} (hf : f < s.length) : rd_Ls_i64 (tab s z val) (f : Int) = (List.range (z ^ ar s f)).map (val f) := by
  show (tab s z val).getD (f : Int).toNat [] = _
  rw [Int.toNat_natCast, List.getD_eq_getElem?_getD, tab, List.getElem?_map, List.getElem?_range hf]
  rfl
theorem rd_rg {n k : Nat} {g : Nat → Int} (hk : k < n) : rd ((List.range n).map g) (k : Int) = g k := by
  show ((List.range n).map g).getD (k : Int).toNat 0 = _
  rw [Int.toNat_natCast, List.getD_eq_getElem?_getD, List.getElem?_map, List.getElem?_range hk]
  rfl
theorem tab_len (s : List I_Sym) (z : Nat) (val : Nat → Nat → Int) : (tab s z val).length = s.length := by rw [tab, List.length_map, List.length_range]
/-- an operation in numbers -/
def Op2 (z : Nat) (t : List Int) (m : Nat → Nat → Nat) : Prop := (∀ p, p < z → ∀ q, q < z → opw z t p q = (m p q : Nat) ∧ m p q < z)
def Blind2 (z : Nat) (m : Nat → Nat → Nat) : Prop := ∀ p, p < z → ∀ q, q < z → ∀ r, r < z → m p q = m q p ∧ m (m p q) r = m p (m q r)
theorem op2_of {z : Nat} {t : List Int} (h : Sq z t) : Op2 z t (fun p q => (opw z t p q).toNat) := by
  intro p hp q hq
  have := opw_rng h (a := p) (b := q) (by omega) (by omega)
  exact ⟨by show _ = (((opw z t p q).toNat : Nat) : Int); omega, by show (opw z t p q).toNat < z; omega⟩
theorem op2_indiff {z : Nat} {t : List Int} {m : Nat → Nat → Nat} (h : Op2 z t m) : Indiff z t ↔ Blind2 z m := by
  have e : ∀ a : Nat, a < z → ∀ b : Nat, b < z → ∀ c : Nat, c < z → (opw z t a b = opw z t b a ∧ opw z t (opw z t a b) c = opw z t a (opw z t b c)) = (m a b = m b a ∧ m (m a b) c = m a (m b c)) := by
    intro a ha b hb c hc
    rw [(h a ha b hb).1, (h b hb a ha).1, (h b hb c hc).1, (h _ (h a ha b hb).2 c hc).1, (h a ha _ (h b hb c hc).2).1]
    simp only [Int.natCast_inj]
  constructor
  · intro H a ha b hb c hc
    rw [← e a ha b hb c hc]; exact H a ha b hb c hc
  · intro H a ha b hb c hc
    rw [e a ha b hb c hc]; exact H a ha b hb c hc
theorem sig_ar {s : List I_Sym} (h : SigOk s) : ∀ i, i < s.length → 0 ≤ (rd_I_Sym s i).f1 ∧ (rd_I_Sym s i).f1 ≤ 3 := fun i hi => (h.1 i hi).2.2.1
theorem sig_ar3 {s : List I_Sym} (h : SigOk s) {i : Nat} (hi : i < s.length) : ar s i ≤ 3 := by
  have := sig_ar h i hi
  show (rd_I_Sym s i).f1.toNat ≤ 3
  omega
theorem sig_ar2 {s : List I_Sym} (h : SigOk s) {i : Nat} (hi : i < s.length) (h2 : (rd_I_Sym s i).f2 = true) : ar s i = 2 := by
  have := (h.1 i hi).2.2.2 h2
  show (rd_I_Sym s i).f1.toNat = 2
  rw [this]; rfl
theorem tab_ok {s : List I_Sym} (h : SigOk s) {z : Nat} (hz : 1 ≤ z ∧ z ≤ 4) {val : Nat → Nat → Int} (hr : ∀ f, f < s.length → ∀ k, k < z ^ ar s f → 0 ≤ val f k ∧ val f k < (z : Int)) (hi : ∀ f, f < s.length → (rd_I_Sym s f).f2 = true → Blind2 z (fun p q => (val f (p + z * q)).toNat)) : WorldOk s z (tab s z val) := by
  refine ⟨h, hz, tab_len .., fun i hl => ?_⟩
  rw [RowOk, rd_tab hl]
  refine ⟨by rw [List.length_map, List.length_range]; rfl, ?_, fun h2 => ?_⟩
  · intro x hx
    obtain ⟨k, hk, rfl⟩ := List.mem_map.1 hx
    exact hr i hl k (List.mem_range.1 hk)
  · refine (op2_indiff (m := fun p q => (val i (p + z * q)).toNat) ?_).2 (hi i hl h2)
    intro p hp q hq
    have hk : p + z * q < z ^ ar s i := by
      rw [sig_ar2 h hl h2, Nat.pow_two]
      have : z * (q + 1) ≤ z * z := Nat.mul_le_mul_left _ hq
      rw [Nat.mul_add] at this
      omega
    have := hr i hl _ hk
    have e : (p : Int) + (z : Int) * (q : Int) = ((p + z * q : Nat) : Int) := by rw [Int.natCast_add, Int.natCast_mul]
    show rd _ ((p : Int) + (z : Int) * (q : Int)) = _ ∧ _
    rw [e, rd_rg hk]
    exact ⟨by show _ = (((val i (p + z * q)).toNat : Nat) : Int); omega, by show (val i (p + z * q)).toNat < z; omega⟩
theorem wrow_sq {s : List I_Sym} {z : Nat} {T : List (List Int)} (h : WorldOk s z T) {i : Nat} (hi : i < s.length) (h2 : (rd_I_Sym s i).f2 = true) : Sq z (rd_Ls_i64 T i) := by
  have r := h.2.2.2 i hi
  refine ⟨h.2.1, ?_, r.2.1⟩
  rw [r.1, ← Nat.pow_two]
  exact congrArg (z ^ ·) (sig_ar2 h.1 hi h2)
theorem wrow_blind {s : List I_Sym} {z : Nat} {T : List (List Int)} (h : WorldOk s z T) {i : Nat} (hi : i < s.length) (h2 : (rd_I_Sym s i).f2 = true) : Blind2 z (fun p q => (opw z (rd_Ls_i64 T i) p q).toNat) := (op2_indiff (op2_of (wrow_sq h hi h2))).1 ((h.2.2.2 i hi).2.2 h2)
theorem two_dgs {z p q : Nat} (hp : p < z) (hq : q < z) : dgs z 2 (p + z * q) = [p, q] := by
  have hz : 0 < z := by omega
  rw [dgs, dgs, dgs, Nat.add_mul_mod_self_left, Nat.mod_eq_of_lt hp, Nat.add_mul_div_left _ _ hz, Nat.div_eq_of_lt hp, Nat.zero_add, Nat.mod_eq_of_lt hq]
/-- a row of a world, where it holds -/
theorem wrow_at {s : List I_Sym} {z : Nat} {T : List (List Int)} (h : WorldOk s z T) {i : Nat} (hi : i < s.length) {l : List Nat} (hl : l.length = ar s i) (hd : ∀ d ∈ l, d < z) : plc z l < (rd_Ls_i64 T i).length ∧ 0 ≤ rd (rd_Ls_i64 T i) ((plc z l : Nat) : Int) ∧ rd (rd_Ls_i64 T i) ((plc z l : Nat) : Int) < (z : Int) := by
  have r := h.2.2.2 i hi
  have hp := plc_lt (by have := h.2.1; omega) l hd
  rw [hl] at hp
  have hlen : (rd_Ls_i64 T i).length = z ^ ar s i := r.1
  have := inR_at r.2.1 (i := ((plc z l : Nat) : Int)) (by omega) (by omega)
  exact ⟨by omega, this.1, this.2⟩
noncomputable def prodV (a b : Nat) (Ta Tb : List (List Int)) (s : List I_Sym) (f k : Nat) : Int := prodVal a b Ta Tb f (dgs (a * b) (ar s f) k)
theorem prodV_rng {s : List I_Sym} {a b : Nat} {Ta Tb : List (List Int)} (ha : WorldOk s a Ta) (hb : WorldOk s b Tb) {f : Nat} (hf : f < s.length) (l : List Nat) (hl : l.length = ar s f) (hd : ∀ d ∈ l, d < a * b) : 0 ≤ prodVal a b Ta Tb f l ∧ prodVal a b Ta Tb f l < ((a * b : Nat) : Int) := by
  have r1 := wrow_at ha hf (l := l.map fun d => d % a) (by rw [List.length_map]; exact hl) (mods_lt ha.2.1.1 l)
  have r2 := wrow_at hb hf (l := l.map fun d => d / a) (by rw [List.length_map]; exact hl) (divs_lt l hd)
  rw [prodVal]
  obtain ⟨_, u0, u1⟩ := r1
  obtain ⟨_, v0, v1⟩ := r2
  revert u0 u1 v0 v1
  generalize rd (rd_Ls_i64 Ta ↑f) _ = u
  generalize rd (rd_Ls_i64 Tb ↑f) _ = v
  intro u0 u1 v0 v1
  obtain ⟨u, rfl⟩ := Int.eq_ofNat_of_zero_le u0
  obtain ⟨v, rfl⟩ := Int.eq_ofNat_of_zero_le v0
  have : a * (v + 1) ≤ a * b := Nat.mul_le_mul_left _ (by omega)
  rw [Nat.mul_add] at this
  rw [← Int.natCast_mul, ← Int.natCast_add]
  omega
theorem pair_lt {a b u v : Nat} (hu : u < a) (hv : v < b) : u + a * v < a * b := by
  have : a * (v + 1) ≤ a * b := Nat.mul_le_mul_left _ hv
  rw [Nat.mul_add] at this
  omega
theorem pair_mod {a u v : Nat} (hu : u < a) : (u + a * v) % a = u ∧ (u + a * v) / a = v := by
  refine ⟨by rw [Nat.add_mul_mod_self_left, Nat.mod_eq_of_lt hu], by rw [Nat.add_mul_div_left _ _ (by omega), Nat.div_eq_of_lt hu, Nat.zero_add]⟩
theorem prod_ok {s : List I_Sym} {a b : Nat} {Ta Tb : List (List Int)} (ha : WorldOk s a Ta) (hb : WorldOk s b Tb) (hab : a * b ≤ 4) : WorldOk s (a * b) (tab s (a * b) (prodV a b Ta Tb s)) := by
  have a1 := ha.2.1.1
  have b1 := hb.2.1.1
  have p1 : 0 < a * b := Nat.mul_pos a1 b1
  refine tab_ok ha.1 ⟨p1, hab⟩ (fun f hf k hk => prodV_rng ha hb hf _ (dgs_len ..) (dgs_lt p1 _ _)) (fun f hf h2 => ?_)
  have A := wrow_blind ha hf h2
  have B := wrow_blind hb hf h2
  have oa := op2_of (wrow_sq ha hf h2)
  have ob := op2_of (wrow_sq hb hf h2)
  have e : ∀ p, p < a * b → ∀ q, q < a * b → (prodV a b Ta Tb s f (p + a * b * q)).toNat = (opw a (rd_Ls_i64 Ta f) ((p % a : Nat) : Int) ((q % a : Nat) : Int)).toNat + a * (opw b (rd_Ls_i64 Tb f) ((p / a : Nat) : Int) ((q / a : Nat) : Int)).toNat := by
    intro p hp q hq
    have x := (oa (p % a) (Nat.mod_lt _ a1) (q % a) (Nat.mod_lt _ a1)).1
    have y := (ob (p / a) (Nat.div_lt_of_lt_mul hp) (q / a) (Nat.div_lt_of_lt_mul hq)).1
    have e1 : prodV a b Ta Tb s f (p + a * b * q) = opw a (rd_Ls_i64 Ta f) ((p % a : Nat) : Int) ((q % a : Nat) : Int) + (a : Int) * opw b (rd_Ls_i64 Tb f) ((p / a : Nat) : Int) ((q / a : Nat) : Int) := by
      rw [prodV, sig_ar2 ha.1 hf h2, two_dgs hp hq]
      simp [prodVal, plc, opw]
    rw [e1, x, y, ← Int.natCast_mul, ← Int.natCast_add]
    rfl
  intro p hp q hq r hr
  have pa := Nat.mod_lt p a1; have qa := Nat.mod_lt q a1; have ra := Nat.mod_lt r a1
  have pb := Nat.div_lt_of_lt_mul hp; have qb := Nat.div_lt_of_lt_mul hq; have rb := Nat.div_lt_of_lt_mul hr
  have A1 := A _ pa _ qa _ ra
  have B1 := B _ pb _ qb _ rb
  show (prodV a b Ta Tb s f (p + a * b * q)).toNat = (prodV a b Ta Tb s f (q + a * b * p)).toNat ∧ (prodV a b Ta Tb s f ((prodV a b Ta Tb s f (p + a * b * q)).toNat + a * b * r)).toNat = (prodV a b Ta Tb s f (p + a * b * (prodV a b Ta Tb s f (q + a * b * r)).toNat)).toNat
  have l1 := pair_lt (oa _ pa _ qa).2 (ob _ pb _ qb).2
  have l2 := pair_lt (oa _ qa _ ra).2 (ob _ qb _ rb).2
  rw [e p hp q hq, e q hq p hp, e q hq r hr, e _ l1 r hr, e p hp _ l2, (pair_mod (oa _ pa _ qa).2).1, (pair_mod (oa _ pa _ qa).2).2, (pair_mod (oa _ qa _ ra).2).1, (pair_mod (oa _ qa _ ra).2).2]
  have both : ∀ {x y u v : Nat}, x = y → u = v → x + a * u = y + a * v := by rintro x y u v rfl rfl; rfl
  exact ⟨both A1.1 B1.1, both A1.2 B1.2⟩
theorem rdRow1 (x : List Int) : rd_Ls_i64 ([x] : List (List Int)) 0 = x := rfl
theorem mul44 {a b : Nat} (ha : a ≤ 4) (hb : b ≤ 4) : wrap64 ((a : Int) * (b : Int)) = ((a * b : Nat) : Int) := by
  have : a * b ≤ 4 * 4 := Nat.mul_le_mul ha hb
  rw [← Int.natCast_mul]; exact wrN (by omega)
theorem impl_Product_ok (s : List I_Sym) (hs : Names s) {a b : Nat} {Ta Tb : List (List Int)} (rA : Rows Ta) (rB : Rows Tb) (ha : WorldOk s a Ta) (hb : WorldOk s b Tb) : Ev (fun k => impl_Product.f k s a Ta b Tb) (if a * b ≤ 4 then (((a * b : Nat) : Int), tab s (a * b) (prodV a b Ta Tb s), true) else (0, [], false)) := by
  unfold impl_Product.f
  simp only [rdW, mul44 ha.2.1.2 hb.2.1.2]
  refine Wp.ev (Wp.bindE (impl_WorldOk_ev s a Ta hs rA) (Wp.itetB ⟨by omega, by rw [Int.toNat_natCast]; exact ha⟩ (Wp.bindE (impl_WorldOk_ev s b Tb hs rB) (Wp.itetB ⟨by omega, by rw [Int.toNat_natCast]; exact hb⟩ ?_))))
  by_cases h : a * b ≤ 4
  · rw [if_pos h]
    have p1 : 0 < a * b := Nat.mul_pos ha.2.1.1 hb.2.1.1
    refine Wp.itef (by omega) (Wp.bindE (tabled_Product_ev s hs.1 (sig_ar ha.1) (a * b) ⟨p1, h⟩ _ _ (prodV a b Ta Tb s) ?_) (Wp.ret rfl))
    intro f hf k hk
    have r1 := ha.2.2.2 f hf
    have r2 := hb.2.2.2 f hf
    have l1 : f < Ta.length := by have := ha.2.2.1; omega
    have l2 : f < Tb.length := by have := hb.2.2.1; omega
    exact impl_Product_1_ev ha.2.1.1 hb.2.1.1 h l1 l2 _ (by rw [dgs_len]; exact sig_ar3 ha.1 hf) (dgs_lt p1 _ _) (by rw [dgs_len]; exact r1.1) r1.2.1 (by rw [dgs_len]; exact r2.1) r2.2.1
  · rw [if_neg h]
    exact Wp.itet (by omega) (Wp.ret rfl)
theorem ine0 {a : Nat} (h : 0 < a) : ¬ (a : Int) = 0 := by omega
theorem ilt {a b : Nat} (h : a < b) : (a : Int) < (b : Int) := by omega
theorem inlt {a b : Nat} (h : b ≤ a) : ¬ (a : Int) < (b : Int) := by omega
theorem wrS {m n : Nat} (h : m + n ≤ 64) : wrap64 ((m : Int) + (n : Int)) = ((m + n : Nat) : Int) := by rw [← Int.natCast_add]; exact wrN (by omega)
theorem wrM {m n : Nat} (h : m * n ≤ 64) : wrap64 ((m : Int) * (n : Int)) = ((m * n : Nat) : Int) := by rw [← Int.natCast_mul]; exact wrN (by omega)
theorem spec_Product_row (s : List I_Sym) {a b : Nat} {Ta Tb : List (List Int)} (ha : WorldOk s a Ta) (hb : WorldOk s b Tb) (hab : a * b ≤ 4) {f : Nat} (hf : f < s.length) (T : List (List Int)) (row : List Int) (k : Nat) (hrow : row.length ≤ 64) (hk : k < (a * b) ^ ar s f) {P : Int × List (List Int) × Bool → Prop}
    (next : Wp (fun q => spec_Product.l1 q s f (row ++ [prodV a b Ta Tb s f k]) (((k + 1 : Nat) : Nat) : Int) a Ta b Tb 0 ((a * b : Nat) : Int) T) P) : Wp (fun q => spec_Product.l2 q s f row k 0 0 k 1 1 0 a Ta b Tb 0 ((a * b : Nat) : Int) T) P := by
  have a1 := ha.2.1.1
  have b1 := hb.2.1.1
  have p1 : 0 < a * b := Nat.mul_pos a1 b1
  have a4 := ha.2.1.2
  have b4 := hb.2.1.2
  have hr := sig_ar3 ha.1 hf
  have sa := sig_ar ha.1 f hf
  have e1 : (rd_I_Sym s (f : Int)).f1 = ((ar s f : Nat) : Int) := (Int.toNat_of_nonneg sa.1).symm
  have kb := pow64 hab hr
  have f0 : 0 ≤ (f : Int) := Int.natCast_nonneg _
  have f1 : (f : Int) < (s.length : Int) := by omega
  have key : ∀ d i : Nat, i + d = ar s f → ∀ (l : List Nat) (n : Nat), l.length = i → (∀ x ∈ l, x < a * b) → n ≤ k → l ++ dgs (a * b) d n = dgs (a * b) (ar s f) k → Wp (fun q => spec_Product.l2 q s f row k ((plc a (l.map fun d => d % a) : Nat) : Int) ((plc b (l.map fun d => d / a) : Nat) : Int) n ((a ^ i : Nat) : Int) ((b ^ i : Nat) : Int) i a Ta b Tb 0 ((a * b : Nat) : Int) T) P := by
    intro d
    induction d with
    | zero =>
      intro i hi l n hl hd hn he
      rw [dgs, List.append_nil] at he
      refine Wp.step (fun k => by rw [spec_Product.l2]) ?_
      have la : (l.map fun d => d % a).length = ar s f := by rw [List.length_map]; omega
      have lb : (l.map fun d => d / a).length = ar s f := by rw [List.length_map]; omega
      have r1 := wrow_at ha hf la (mods_lt a1 l)
      have r2 := wrow_at hb hf lb (divs_lt l hd)
      have pr := prodV_rng ha hb hf l (by omega) hd
      have t1 := ha.2.2.1
      have t2 := hb.2.2.1
      have hv : wrap64 (rd (rd_Ls_i64 Ta (f : Int)) ((plc a (l.map fun d => d % a) : Nat) : Int) + wrap64 ((a : Int) * rd (rd_Ls_i64 Tb (f : Int)) ((plc b (l.map fun d => d / a) : Nat) : Int))) = prodV a b Ta Tb s f k := by
        rw [prodV, ← he]
        rw [prodVal] at pr ⊢
        have m0 : 0 ≤ (a : Int) * rd (rd_Ls_i64 Tb (f : Int)) ((plc b (l.map fun d => d / a) : Nat) : Int) := Int.mul_nonneg (by omega) r2.2.1
        rw [wrap_id (x := (a : Int) * _) (by omega) (by omega), wrap_id (by omega) (by omega)]
      have hw : wrap64 ((k : Int) + 1) = ((k + 1 : Nat) : Int) := by
        have : (k : Int) + 1 = ((k + 1 : Nat) : Int) := by omega
        rw [this]; exact wrN (by omega)
      rw [e1]
      simp only [hv, hw]
      have i0 : ¬ (i : Int) < ((ar s f : Nat) : Int) := inlt (Nat.le_of_eq hi.symm)
      have t1' : (f : Int) < (Ta.length : Int) := ilt (t1 ▸ hf)
      have t2' : (f : Int) < (Tb.length : Int) := ilt (t2 ▸ hf)
      have r1' := r1.1
      have r2' := r2.1
      exact Wp.itet f0 (Wp.itet f1 (Wp.itef i0 (Wp.itet t1' (Wp.itet (Int.natCast_nonneg _) (Wp.itet (ilt r1') (Wp.itet t2' (Wp.itet (Int.natCast_nonneg _) (Wp.itet (ilt r2') (Wp.itet (Nat.le_trans (Nat.add_le_add_right hrow 1) (by decide)) next)))))))))
    | succ d ih =>
      intro i hi l n hl hd hn he
      rw [dgs] at he
      have hi2 : i < ar s f := by omega
      have hi3 : i + 1 + d = ar s f := by omega
      have hi4 : i + 1 ≤ 64 := by omega
      refine Wp.step (fun k => by rw [spec_Product.l2]) ?_
      rw [e1]
      have dl : n % (a * b) < a * b := Nat.mod_lt _ p1
      have hd' : ∀ x ∈ l ++ [n % (a * b)], x < a * b := by
        intro x hx
        rcases List.mem_append.1 hx with hx | hx
        · exact hd x hx
        · simp at hx; omega
      have pa := plc_lt a1 ((l ++ [n % (a * b)]).map fun d => d % a) (mods_lt a1 _)
      have pb := plc_lt b1 ((l ++ [n % (a * b)]).map fun d => d / a) (divs_lt _ hd')
      have ha64 : a ^ (i + 1) ≤ 64 := pow64 a4 (by omega)
      have hb64 : b ^ (i + 1) ≤ 64 := pow64 b4 (by omega)
      have sa1 := plc_snoc a (l.map fun d => d % a) (n % (a * b) % a)
      have sb1 := plc_snoc b (l.map fun d => d / a) (n % (a * b) / a)
      rw [List.length_map, hl] at sa1 sb1
      have ma : (l ++ [n % (a * b)]).map (fun d => d % a) = l.map (fun d => d % a) ++ [n % (a * b) % a] := by rw [List.map_append]; rfl
      have mb : (l ++ [n % (a * b)]).map (fun d => d / a) = l.map (fun d => d / a) ++ [n % (a * b) / a] := by rw [List.map_append]; rfl
      rw [ma, List.length_append, List.length_map, hl, List.length_singleton] at pa
      rw [mb, List.length_append, List.length_map, hl, List.length_singleton] at pb
      have nd : n / (a * b) ≤ n := Nat.div_le_self _ _
      have x0 : Int.tmod (Int.tmod (n : Int) ((a * b : Nat) : Int)) (a : Int) = ((n % (a * b) % a : Nat) : Int) := by rw [tmod_nat, tmod_nat]
      have y0 : Int.tdiv (Int.tmod (n : Int) ((a * b : Nat) : Int)) (a : Int) = ((n % (a * b) / a : Nat) : Int) := by rw [tmod_nat, tdiv_nat]
      have nq : Int.tdiv (n : Int) ((a * b : Nat) : Int) = ((n / (a * b) : Nat) : Int) := tdiv_nat ..
      have sA : plc a (l.map fun d => d % a) + a ^ i * (n % (a * b) % a) ≤ 64 := by rw [← sa1]; exact Nat.le_of_lt (Nat.lt_of_lt_of_le pa ha64)
      have sB : plc b (l.map fun d => d / a) + b ^ i * (n % (a * b) / a) ≤ 64 := by rw [← sb1]; exact Nat.le_of_lt (Nat.lt_of_lt_of_le pb hb64)
      have w1 := wrM (Nat.le_trans (Nat.le_add_left _ _) sA)
      have w2 : wrap64 ((n % (a * b) / a : Nat) : Int) = ((n % (a * b) / a : Nat) : Int) := wrN (Nat.le_trans (Nat.div_le_self _ _) (Nat.le_trans (Nat.le_of_lt dl) (Nat.le_trans hab (by decide))))
      have w3 := wrM (Nat.le_trans (Nat.le_add_left _ _) sB)
      have w4 := wrS sA
      have w5 := wrS sB
      have w6 : wrap64 ((n / (a * b) : Nat) : Int) = ((n / (a * b) : Nat) : Int) := wrN (Nat.le_trans nd (Nat.le_trans hn (Nat.le_trans (Nat.le_of_lt hk) (Nat.le_trans kb (by decide)))))
      have w7 := wrM (m := a ^ i) (n := a) (by rw [← Nat.pow_succ]; exact ha64)
      have w8 := wrM (m := b ^ i) (n := b) (by rw [← Nat.pow_succ]; exact hb64)
      have w9 : wrap64 ((i : Int) + 1) = ((i + 1 : Nat) : Int) := wrS (m := i) (n := 1) (hi4)
      rw [← sa1, ← ma] at w4
      rw [← sb1, ← mb] at w5
      rw [← Nat.pow_succ] at w7 w8
      simp only [x0, y0, nq, w1, w2, w3, w4, w5, w6, w7, w8, w9]
      have ab0 : ¬ ((a * b : Nat) : Int) = 0 := ine0 p1
      have a0 : ¬ (a : Int) = 0 := ine0 a1
      have i0 : (i : Int) < ((ar s f : Nat) : Int) := ilt hi2
      refine Wp.itet f0 (Wp.itet f1 (Wp.itet i0 (Wp.itef ab0 (Wp.itef a0 ?_))))
      exact ih (i + 1) hi3 (l ++ [n % (a * b)]) _ (by rw [List.length_append, hl]; rfl) hd' (Nat.le_trans nd hn) (by rw [List.append_assoc]; exact he)
  exact key (ar s f) 0 (by omega) [] k rfl (fun x hx => nomatch hx) (Nat.le_refl _) rfl
theorem spec_Product_ok (s : List I_Sym) (hs : Names s) {a b : Nat} {Ta Tb : List (List Int)} (rA : Rows Ta) (rB : Rows Tb) (ha : WorldOk s a Ta) (hb : WorldOk s b Tb) : Ev (fun k => spec_Product.f k s a Ta b Tb) (if a * b ≤ 4 then (((a * b : Nat) : Int), tab s (a * b) (prodV a b Ta Tb s), true) else (0, [], false)) := by
  unfold spec_Product.f
  simp only [mul44 ha.2.1.2 hb.2.1.2]
  refine Wp.ev (Wp.bindE (spec_WorldOk_ev s a Ta hs rA) (Wp.itetB ⟨by omega, by rw [Int.toNat_natCast]; exact ha⟩ (Wp.bindE (spec_WorldOk_ev s b Tb hs rB) (Wp.itetB ⟨by omega, by rw [Int.toNat_natCast]; exact hb⟩ ?_))))
  by_cases h : a * b ≤ 4
  · rw [if_pos h]
    have p1 : 0 < a * b := Nat.mul_pos ha.2.1.1 hb.2.1.1
    have hsl := hs.1
    refine Wp.itef (by omega) ?_
    refine Wp.cnt1 s.length hsl (fun q i T => spec_Product.l0 q s i a Ta b Tb 0 ((a * b : Nat) : Int) T) (fun i T => T = (List.range i).map fun f => (List.range ((a * b) ^ ar s f)).map (prodV a b Ta Tb s f)) ?_ ?_ ([] : List (List Int)) rfl
    · rintro i T hi hw rfl ih
      refine Wp.step (fun k => by rw [spec_Product.l0]) ?_
      refine Wp.itet (by omega) ?_
      have hr := sig_ar3 ha.1 hi
      have sa := sig_ar ha.1 i hi
      have e1 : (rd_I_Sym s (i : Int)).f1 = ((ar s i : Nat) : Int) := (Int.toNat_of_nonneg sa.1).symm
      have kb := pow64 h hr
      refine Wp.cnt1 ((a * b) ^ ar s i) (by omega) (fun q k row => spec_Product.l1 q s i row k a Ta b Tb 0 ((a * b : Nat) : Int) ((List.range i).map fun f => (List.range ((a * b) ^ ar s f)).map (prodV a b Ta Tb s f))) (fun k row => row = (List.range k).map (prodV a b Ta Tb s i)) ?_ ?_ ([] : List Int) rfl
      · rintro k row hk hwk rfl ih2
        refine Wp.step (fun k => by rw [spec_Product.l1]) ?_
        rw [e1]
        refine Wp.itet (by omega) (Wp.itet (by omega) (Wp.bindE (spec_l24Power_ev (a * b) ⟨p1, h⟩ _ (by omega)) (Wp.itet (by omega) ?_)))
        refine spec_Product_row s ha hb h hi _ _ k (by simp; omega) hk ?_
        exact ih2 _ (range_snoc _ _)
      · rintro row rfl
        refine Wp.step (fun k => by rw [spec_Product.l1]) ?_
        rw [e1]
        simp only [hw.e]
        refine Wp.itet (by omega) (Wp.itet (by omega) (Wp.bindE (spec_l24Power_ev (a * b) ⟨p1, h⟩ _ (by omega)) (Wp.itef (by omega) (Wp.itet (by simp; omega) ?_))))
        exact ih _ (range_snoc (fun f => (List.range ((a * b) ^ ar s f)).map (prodV a b Ta Tb s f)) i)
    · rintro T rfl
      refine Wp.step (fun k => by rw [spec_Product.l0]) ?_
      exact Wp.itef (by omega) (Wp.ret rfl)
  · rw [if_neg h]
    exact Wp.itet (by omega) (Wp.ret rfl)
/-! #### worlds within worlds -/
noncomputable def subV (n z : Nat) (T : List (List Int)) (s : List I_Sym) (f k : Nat) : Int := rd (rd_Ls_i64 T f) ((plc z (dgs n (ar s f) k) : Nat) : Int)
def SubOk (s : List I_Sym) (n : Nat) (val : Nat → Nat → Int) : Prop := ∀ f, f < s.length → ∀ k, k < n ^ ar s f → val f k < (n : Int)
theorem sub_at {s : List I_Sym} {z n : Nat} {T : List (List Int)} (h : WorldOk s z T) (hn : 1 ≤ n ∧ n ≤ z) {f : Nat} (hf : f < s.length) (k : Nat) : plc z (dgs n (ar s f) k) < (rd_Ls_i64 T f).length ∧ 0 ≤ subV n z T s f k ∧ subV n z T s f k < (z : Int) :=
  wrow_at h hf (dgs_len ..) (fun d hd => Nat.lt_of_lt_of_le (dgs_lt hn.1 _ _ d hd) hn.2)
theorem sub_ok {s : List I_Sym} {z n : Nat} {T : List (List Int)} (h : WorldOk s z T) (hn : 1 ≤ n ∧ n ≤ z) : WorldOk s n (tab s n (subV n z T s)) ↔ SubOk s n (subV n z T s) := by
  constructor
  · intro H f hf k hk
    have r := H.2.2.2 f hf
    rw [RowOk, rd_tab hf] at r
    exact (r.2.1 _ (List.mem_map.2 ⟨k, List.mem_range.2 hk, rfl⟩)).2
  · intro H
    refine tab_ok h.1 ⟨hn.1, Nat.le_trans hn.2 h.2.1.2⟩ (fun f hf k hk => ⟨(sub_at h hn hf k).2.1, H f hf k hk⟩) (fun f hf h2 => ?_)
    have A := wrow_blind h hf h2
    have e : ∀ p, p < n → ∀ q, q < n → subV n z T s f (p + n * q) = opw z (rd_Ls_i64 T f) p q := by
      intro p hp q hq
      rw [subV, sig_ar2 h.1 hf h2, two_dgs hp hq]
      simp [plc, opw]
    have lt : ∀ p, p < n → ∀ q, q < n → (opw z (rd_Ls_i64 T f) p q).toNat < n := by
      intro p hp q hq
      have := H f hf (p + n * q) (by rw [sig_ar2 h.1 hf h2, Nat.pow_two]; exact pair_lt hp hq)
      have p0 := (sub_at h hn hf (p + n * q)).2.1
      rw [e p hp q hq] at this p0
      omega
    intro p hp q hq r hr
    show (subV n z T s f (p + n * q)).toNat = (subV n z T s f (q + n * p)).toNat ∧ (subV n z T s f ((subV n z T s f (p + n * q)).toNat + n * r)).toNat = (subV n z T s f (p + n * (subV n z T s f (q + n * r)).toNat)).toNat
    rw [e p hp q hq, e q hq p hp, e q hq r hr, e _ (lt p hp q hq) r hr, e p hp _ (lt q hq r hr)]
    exact A p (Nat.lt_of_lt_of_le hp hn.2) q (Nat.lt_of_lt_of_le hq hn.2) r (Nat.lt_of_lt_of_le hr hn.2)
theorem impl_Subworld_1_ev {s : List I_Sym} {z n : Nat} {T : List (List Int)} (h : WorldOk s z T) (hn : 1 ≤ n ∧ n ≤ z) {f : Nat} (hf : f < s.length) (k : Nat) : Ev (fun q => impl_Subworld_1_v2.f q (f : Int) (ofN (dgs n (ar s f) k)) ([⟨(z : Int), T⟩] : List I_World) 0) (subV n z T s f k) := by
  have r := (sub_at h hn hf k).1
  have t := h.2.2.1
  unfold impl_Subworld_1_v2.f
  simp only [rdW]
  exact Wp.ev (Wp.itet (Int.natCast_nonneg _) (Wp.itet (ilt (t ▸ hf)) (Wp.bindE (impl_placeOf_ev z h.2.1 _ (by rw [dgs_len]; exact sig_ar3 h.1 hf) (fun d hd => Nat.lt_of_lt_of_le (dgs_lt hn.1 _ _ d hd) hn.2)) (Wp.itet (Int.natCast_nonneg _) (Wp.itet (ilt r) (Wp.ret rfl))))))
theorem tab_rows {s : List I_Sym} (h : SigOk s) {z : Nat} (hz : z ≤ 4) (val : Nat → Nat → Int) : Rows (tab s z val) := by
  intro x hx
  obtain ⟨f, hf, rfl⟩ := List.mem_map.1 hx
  have := pow64 hz (sig_ar3 h (List.mem_range.1 hf))
  rw [List.length_map, List.length_range]
  omega
noncomputable def subRes (s : List I_Sym) (n z : Nat) (T : List (List Int)) : Int × List (List Int) × Bool := @ite _ (SubOk s n (subV n z T s)) (Classical.propDecidable _) ((n : Int), tab s n (subV n z T s), true) (0, [], false)
theorem impl_Subworld_ok (s : List I_Sym) (hs : Names s) {z n : Nat} {T : List (List Int)} (rA : Rows T) (h : WorldOk s z T) (hn : 1 ≤ n ∧ n ≤ z) : Ev (fun k => impl_Subworld.f k s z T n) (subRes s n z T) := by
  have n4 : n ≤ 4 := Nat.le_trans hn.2 h.2.1.2
  unfold impl_Subworld.f
  simp only [rdW]
  refine Wp.ev (Wp.bindE (impl_WorldOk_ev s z T hs rA) (Wp.itetB ⟨by omega, by rw [Int.toNat_natCast]; exact h⟩ (Wp.bindE (impl_from_ev _ _ _) (Wp.itetB (by omega) ?_))))
  refine Wp.bindE (tabled_Subworld_ev s hs.1 (sig_ar h.1) n ⟨hn.1, n4⟩ _ (subV n z T s) (fun f hf k _ => impl_Subworld_1_ev h hn hf k)) (Wp.bindE (impl_WorldOk_ev s n _ hs (tab_rows h.1 n4 _)) (Wp.iteB (fun c => Wp.ret ?_) (fun c => Wp.ret ?_)))
  · rw [Int.toNat_natCast] at c
    rw [subRes, if_pos ((sub_ok h hn).1 c.2)]
  · rw [subRes, if_neg fun H => c ⟨by omega, by rw [Int.toNat_natCast]; exact (sub_ok h hn).2 H⟩]
theorem spec_Subworld_row (s : List I_Sym) {z n : Nat} {T : List (List Int)} (h : WorldOk s z T) (hn : 1 ≤ n ∧ n ≤ z) {f : Nat} (hf : f < s.length) (T' : List (List Int)) (row : List Int) (k : Nat) (hrow : row.length ≤ 64) (hk : k < n ^ ar s f) {P : Int × List (List Int) × Bool → Prop}
    (bad : ¬ subV n z T s f k < (n : Int) → P (0, [], false))
    (next : subV n z T s f k < (n : Int) → Wp (fun q => spec_Subworld.l1 q s n f (row ++ [subV n z T s f k]) (((k + 1 : Nat) : Nat) : Int) z T 0 (n : Int) T') P) : Wp (fun q => spec_Subworld.l2 q s n f row k 0 k 1 0 z T 0 (n : Int) T') P := by
  have z1 := h.2.1.1
  have z4 := h.2.1.2
  have n4 : n ≤ 4 := Nat.le_trans hn.2 z4
  have hr := sig_ar3 h.1 hf
  have sa := sig_ar h.1 f hf
  have e1 : (rd_I_Sym s (f : Int)).f1 = ((ar s f : Nat) : Int) := (Int.toNat_of_nonneg sa.1).symm
  have kb := pow64 n4 hr
  have k64 : k + 1 ≤ 64 := Nat.le_trans hk kb
  have f0 : 0 ≤ (f : Int) := Int.natCast_nonneg _
  have f1 : (f : Int) < (s.length : Int) := by omega
  have hw : wrap64 ((k : Int) + 1) = ((k + 1 : Nat) : Int) := wrS (m := k) (n := 1) k64
  have key : ∀ d i : Nat, i + d = ar s f → ∀ (l : List Nat) (m : Nat), l.length = i → (∀ x ∈ l, x < n) → m ≤ k → l ++ dgs n d m = dgs n (ar s f) k → Wp (fun q => spec_Subworld.l2 q s n f row k ((plc z l : Nat) : Int) m ((z ^ i : Nat) : Int) i z T 0 (n : Int) T') P := by
    intro d
    induction d with
    | zero =>
      intro i hi l m hl hd hm he
      rw [dgs, List.append_nil] at he
      subst he
      refine Wp.step (fun k => by rw [spec_Subworld.l2]) ?_
      have r1 := (sub_at h hn hf k).1
      have t1 := h.2.2.1
      have i0 : ¬ (i : Int) < ((ar s f : Nat) : Int) := inlt (Nat.le_of_eq hi.symm)
      have t1' : (f : Int) < (T.length : Int) := ilt (t1 ▸ hf)
      have hv : rd (rd_Ls_i64 T (f : Int)) ((plc z (dgs n (ar s f) k) : Nat) : Int) = subV n z T s f k := rfl
      rw [e1]
      simp only [hw, hv]
      refine Wp.itet f0 (Wp.itet f1 (Wp.itef i0 (Wp.itet t1' (Wp.itet (Int.natCast_nonneg _) (Wp.itet (ilt r1) (Wp.ite (fun c => Wp.ret (bad (by omega))) (fun c => Wp.itet (Nat.le_trans (Nat.add_le_add_right hrow 1) (by decide)) (next (by omega)))))))))
    | succ d ih =>
      intro i hi l m hl hd hm he
      rw [dgs] at he
      have hi2 : i < ar s f := by omega
      have hi3 : i + 1 + d = ar s f := by omega
      have hi4 : i + 1 ≤ 64 := by omega
      refine Wp.step (fun k => by rw [spec_Subworld.l2]) ?_
      rw [e1]
      have dl : m % n < n := Nat.mod_lt _ hn.1
      have hd' : ∀ x ∈ l ++ [m % n], x < n := by
        intro x hx
        rcases List.mem_append.1 hx with hx | hx
        · exact hd x hx
        · simp at hx; omega
      have pa := plc_lt z1 (l ++ [m % n]) (fun x hx => Nat.lt_of_lt_of_le (hd' x hx) hn.2)
      have ha64 : z ^ (i + 1) ≤ 64 := pow64 z4 (by omega)
      have sa1 := plc_snoc z l (m % n)
      rw [hl] at sa1
      rw [List.length_append, hl, List.length_singleton] at pa
      have nd : m / n ≤ m := Nat.div_le_self _ _
      have sA : plc z l + z ^ i * (m % n) ≤ 64 := by rw [← sa1]; exact Nat.le_of_lt (Nat.lt_of_lt_of_le pa ha64)
      have w1 := wrM (Nat.le_trans (Nat.le_add_left _ _) sA)
      have w4 := wrS sA
      have w6 : wrap64 ((m / n : Nat) : Int) = ((m / n : Nat) : Int) := wrN (Nat.le_trans nd (Nat.le_trans hm (Nat.le_trans (Nat.le_of_lt hk) (Nat.le_trans kb (by decide)))))
      have w7 := wrM (m := z ^ i) (n := z) (by rw [← Nat.pow_succ]; exact ha64)
      have w9 : wrap64 ((i : Int) + 1) = ((i + 1 : Nat) : Int) := wrS (m := i) (n := 1) hi4
      rw [← sa1] at w4
      rw [← Nat.pow_succ] at w7
      simp only [tmod_nat, tdiv_nat, w1, w4, w6, w7, w9]
      refine Wp.itet f0 (Wp.itet f1 (Wp.itet (ilt hi2) (Wp.itef (ine0 hn.1) ?_)))
      exact ih (i + 1) hi3 (l ++ [m % n]) _ (by rw [List.length_append, hl]; rfl) hd' (Nat.le_trans nd hm) (by rw [List.append_assoc]; exact he)
  exact key (ar s f) 0 (by omega) [] k rfl (fun x hx => nomatch hx) (Nat.le_refl _) rfl
theorem spec_Subworld_ok (s : List I_Sym) (hs : Names s) {z n : Nat} {T : List (List Int)} (rA : Rows T) (h : WorldOk s z T) (hn : 1 ≤ n ∧ n ≤ z) : Ev (fun k => spec_Subworld.f k s z T n) (subRes s n z T) := by
  have hsl := hs.1
  have n4 : n ≤ 4 := Nat.le_trans hn.2 h.2.1.2
  unfold spec_Subworld.f
  refine Wp.ev (Wp.bindE (spec_WorldOk_ev s z T hs rA) (Wp.itetB ⟨by omega, by rw [Int.toNat_natCast]; exact h⟩ (Wp.bindE (spec_l1In_ev _ _ _) (Wp.itetB (by omega) ?_))))
  have hbad : ∀ f, f < s.length → ∀ k, k < n ^ ar s f → ¬ subV n z T s f k < (n : Int) → ((0, [], false) : Int × List (List Int) × Bool) = subRes s n z T := by
    intro f hf k hk c
    rw [subRes, if_neg fun H => c (H f hf k hk)]
  refine Wp.cnt1 s.length hs.1 (fun q i T' => spec_Subworld.l0 q s n i z T 0 (n : Int) T') (fun i T' => T' = ((List.range i).map fun f => (List.range (n ^ ar s f)).map (subV n z T s f)) ∧ ∀ f, f < i → ∀ k, k < n ^ ar s f → subV n z T s f k < (n : Int)) ?_ ?_ ([] : List (List Int)) ⟨rfl, fun f hf => absurd hf (Nat.not_lt_zero _)⟩
  · rintro i T' hi hw ⟨rfl, hall⟩ ih
    refine Wp.step (fun k => by rw [spec_Subworld.l0]) ?_
    refine Wp.itet (by omega) ?_
    have hr := sig_ar3 h.1 hi
    have sa := sig_ar h.1 i hi
    have e1 : (rd_I_Sym s (i : Int)).f1 = ((ar s i : Nat) : Int) := (Int.toNat_of_nonneg sa.1).symm
    have kb := pow64 n4 hr
    refine Wp.cnt1 (n ^ ar s i) (by omega) (fun q k row => spec_Subworld.l1 q s n i row k z T 0 (n : Int) ((List.range i).map fun f => (List.range (n ^ ar s f)).map (subV n z T s f))) (fun k row => row = (List.range k).map (subV n z T s i) ∧ ∀ j, j < k → subV n z T s i j < (n : Int)) ?_ ?_ ([] : List Int) ⟨rfl, fun f hf => absurd hf (Nat.not_lt_zero _)⟩
    · rintro k row hk hwk ⟨rfl, hrow⟩ ih2
      refine Wp.step (fun k => by rw [spec_Subworld.l1]) ?_
      rw [e1]
      refine Wp.itet (by omega) (Wp.itet (by omega) (Wp.bindE (spec_l24Power_ev n ⟨hn.1, n4⟩ _ (by omega)) (Wp.itet (by omega) ?_)))
      refine spec_Subworld_row s h hn hi _ _ k (by simp; omega) hk (hbad i hi k hk) (fun c => ?_)
      refine ih2 _ ⟨range_snoc _ _, fun j hj => ?_⟩
      rcases Nat.lt_or_eq_of_le (Nat.le_of_lt_succ hj) with h1 | h1
      · exact hrow j h1
      · rw [h1]; exact c
    · rintro row ⟨rfl, hrow⟩
      refine Wp.step (fun k => by rw [spec_Subworld.l1]) ?_
      rw [e1]
      simp only [hw.e]
      refine Wp.itet (by omega) (Wp.itet (by omega) (Wp.bindE (spec_l24Power_ev n ⟨hn.1, n4⟩ _ (by omega)) (Wp.itef (by omega) (Wp.itet (by simp; omega) ?_))))
      refine ih _ ⟨range_snoc (fun f => (List.range (n ^ ar s f)).map (subV n z T s f)) i, fun f hf => ?_⟩
      rcases Nat.lt_or_eq_of_le (Nat.le_of_lt_succ hf) with h1 | h1
      · exact hall f h1
      · rw [h1]; exact hrow
  · rintro T' ⟨rfl, hall⟩
    refine Wp.step (fun k => by rw [spec_Subworld.l0]) ?_
    refine Wp.itef (by omega) (Wp.ret ?_)
    rw [subRes, if_pos (show SubOk s n (subV n z T s) from hall)]
    rfl
/-! #### lists that name all -/
theorem nodup_len : ∀ (m : Nat) (l : List Int), l.Nodup → (∀ x ∈ l, 0 ≤ x ∧ x < (m : Int)) → l.length ≤ m := by
  intro m
  induction m with
  | zero =>
    intro l _ h
    cases l with
    | nil => exact Nat.le_refl _
    | cons x r => have := h x List.mem_cons_self; omega
  | succ m ih =>
    intro l hn h
    have h1 := ih (l.erase (m : Int)) (hn.erase _) (fun x hx => by
      have h2 := (hn.mem_erase_iff).1 hx
      have := h x h2.2
      have := h2.1
      omega)
    have : l.length ≤ (l.erase (m : Int)).length + 1 := by
      rw [List.length_erase]; split <;> omega
    omega
theorem nodup_all : ∀ (m : Nat) (l : List Int), l.Nodup → (∀ x ∈ l, 0 ≤ x ∧ x < (m : Int)) → l.length = m → ∀ i, i < m → (i : Int) ∈ l := by
  intro m
  induction m with
  | zero => intro l _ _ _ i hi; omega
  | succ m ih =>
    intro l hn h hl i hi
    have hr : ∀ x ∈ l.erase (m : Int), 0 ≤ x ∧ x < (m : Int) := fun x hx => by
      have h2 := (hn.mem_erase_iff).1 hx
      have := h x h2.2
      have := h2.1
      omega
    by_cases hm : (m : Int) ∈ l
    · by_cases e : i = m
      · rw [e]; exact hm
      · exact List.mem_of_mem_erase (ih (l.erase (m : Int)) (hn.erase _) hr (by rw [List.length_erase_of_mem hm]; omega) i (by omega))
    · have := nodup_len m l hn (fun x hx => by
        have := h x hx
        have : x ≠ (m : Int) := fun e => hm (e ▸ hx)
        omega)
      omega
def Perm1 (l : List Int) (z : Nat) : Prop := l.length = z ∧ ∀ i, i < z → (i : Int) ∈ l
theorem perm_fin : ∀ (m : Nat) (l : List Int), Perm1 l m → l.Nodup ∧ ∀ x ∈ l, 0 ≤ x ∧ x < (m : Int) := by
  intro m
  induction m with
  | zero =>
    rintro l ⟨hl, _⟩
    rw [List.length_eq_zero_iff] at hl
    subst hl
    exact ⟨List.nodup_nil, fun x hx => nomatch hx⟩
  | succ m ih =>
    rintro l ⟨hl, h⟩
    have hm := h m (by omega)
    obtain ⟨h1, h2⟩ := ih (l.erase (m : Int)) ⟨by rw [List.length_erase_of_mem hm]; omega, fun i hi => (List.mem_erase_of_ne (by omega)).2 (h i (by omega))⟩
    have p := List.perm_cons_erase hm
    refine ⟨p.nodup_iff.2 (List.nodup_cons.2 ⟨fun c => ?_, h1⟩), fun x hx => ?_⟩
    · have := h2 _ c; omega
    · rcases List.mem_cons.1 (p.mem_iff.1 hx) with e | e
      · omega
      · have := h2 _ e; omega
theorem perm_iff {l : List Int} {z : Nat} : Perm1 l z ↔ l.Nodup ∧ (∀ x ∈ l, 0 ≤ x ∧ x < (z : Int)) ∧ l.length = z :=
  ⟨fun h => ⟨(perm_fin z l h).1, (perm_fin z l h).2, h.1⟩, fun h => ⟨h.2.2, nodup_all z l h.1 h.2.1 h.2.2⟩⟩
noncomputable def pi_ (l : List Int) (d : Nat) : Nat := (rd l (d : Int)).toNat
noncomputable def io_ (l : List Int) (x : Nat) : Nat := (fidx (fun i => (x : Int) = rd l (i : Int)) l.length 0).toNat
theorem rd_get (l : List Int) {i : Nat} (h : i < l.length) : rd l (i : Int) = l[i] := by
  show l.getD (i : Int).toNat 0 = _
  rw [Int.toNat_natCast, List.getD_eq_getElem?_getD, List.getElem?_eq_getElem h]
  rfl
theorem pi_at {l : List Int} {z : Nat} (h : Perm1 l z) {d : Nat} (hd : d < z) : rd l (d : Int) = ((pi_ l d : Nat) : Int) ∧ pi_ l d < z := by
  have hl : d < l.length := by rw [h.1]; exact hd
  have := (perm_fin z l h).2 _ (rd_mem (t := l) (i := (d : Int)) (by omega) (by omega))
  exact ⟨(Int.toNat_of_nonneg this.1).symm, by show (rd l (d : Int)).toNat < z; omega⟩
theorem io_at {l : List Int} {z : Nat} (h : Perm1 l z) {x : Nat} (hx : x < z) : fidx (fun i => (x : Int) = rd l (i : Int)) l.length 0 = ((io_ l x : Nat) : Int) ∧ io_ l x < z ∧ pi_ l (io_ l x) = x := by
  rcases fidx_spec (fun i => (x : Int) = rd l (i : Int)) l.length 0 with ⟨_, h2⟩ | ⟨j, h1, h2, h3, h4, _⟩
  · exfalso
    obtain ⟨i, hi, e⟩ := List.getElem_of_mem (h.2 x hx)
    exact h2 i (by omega) (by omega) (by rw [rd_get l hi]; exact e.symm)
  · have e : io_ l x = j := by rw [io_, h3, Int.toNat_natCast]
    rw [e]
    refine ⟨h3, by have := h.1; omega, ?_⟩
    rw [pi_, ← h4, Int.toNat_natCast]
theorem io_pi {l : List Int} {z : Nat} (h : Perm1 l z) {d : Nat} (hd : d < z) : io_ l (pi_ l d) = d := by
  have p := pi_at h hd
  obtain ⟨_, h2, h3⟩ := io_at h p.2
  have q := pi_at h h2
  have e : rd l ((io_ l (pi_ l d) : Nat) : Int) = rd l (d : Int) := by rw [q.1, p.1, h3]
  have l1 : io_ l (pi_ l d) < l.length := by rw [h.1]; exact h2
  have l2 : d < l.length := by rw [h.1]; exact hd
  rw [rd_get l l1, rd_get l l2] at e
  have nd := List.pairwise_iff_getElem.1 (perm_fin z l h).1
  rcases Nat.lt_trichotomy (io_ l (pi_ l d)) d with c | c | c
  · exact absurd e (nd _ _ l1 l2 c)
  · exact c
  · exact absurd e.symm (nd _ _ l2 l1 c)
/-- where a place comes to -/
noncomputable def mp (g : Nat → Nat) (z r k : Nat) : Nat := plc z ((dgs z r k).map g)
theorem mp_inv {z : Nat} (hz : 0 < z) {g g' : Nat → Nat} (hg : ∀ d, d < z → g d < z ∧ g' (g d) = d) {r k : Nat} (hk : k < z ^ r) : mp g z r k < z ^ r ∧ mp g' z r (mp g z r k) = k := by
  have hd : ∀ d ∈ (dgs z r k).map g, d < z := by
    intro d hd
    obtain ⟨x, hx, rfl⟩ := List.mem_map.1 hd
    exact (hg x (dgs_lt hz _ _ x hx)).1
  have hl : ((dgs z r k).map g).length = r := by rw [List.length_map, dgs_len]
  have h1 := plc_lt hz _ hd
  rw [hl] at h1
  refine ⟨h1, ?_⟩
  have h2 := dgs_plc hz _ hd
  rw [hl] at h2
  rw [mp, mp, h2, List.map_map]
  have : (dgs z r k).map (g' ∘ g) = dgs z r k := by
    conv => rhs; rw [← List.map_id (dgs z r k)]
    exact List.map_congr_left fun d hd => (hg d (dgs_lt hz _ _ d hd)).2
  rw [this, plc_dgs hz _ _ hk]
theorem idx_ev (l : List Int) (n : Int) (h : l.length ≤ 1000000000) : Ev (fun k => slices_Index_int_int.f k l n) (fidx (fun i => n = rd l i) l.length 0) := by
  unfold slices_Index_int_int.f
  refine Wp.find l.length h (fun k i => slices_Index_int_int.l0 k l n l.length i) (fun i => i) ?_ ?_
  · intro i P hi hw hT hF
    refine Wp.step (fun k => by rw [slices_Index_int_int.l0]) ?_
    simp only [hw.e]
    repeat' (first|(with_reducible refine Wp.itetB ?c_ ?_;(case c_=>first|exact Int.natCast_nonneg _|omega|assumption))|(with_reducible refine Wp.itefB ?c_ ?_;(case c_=>first|exact Int.natCast_nonneg _|omega|assumption))|(with_reducible refine Wp.itet ?c_ ?_;(case c_=>first|exact Int.natCast_nonneg _|omega|assumption))|(with_reducible refine Wp.itef ?c_ ?_;(case c_=>first|exact Int.natCast_nonneg _|omega|assumption))|(simp only [decide_eq_true_eq])|(with_reducible refine Wp.ret ?_)|(with_reducible refine Wp.itet ?c_ ?_;(case c_=>simp only [List.length_append, List.length_cons, List.length_nil, List.length_take, List.length_drop, List.length_replicate]; omega))|(with_reducible refine Wp.iteB (fun hc => ?_) (fun hc => ?_))|(with_reducible refine Wp.ite (fun hc => ?_) (fun hc => ?_)))
    all_goals first | exact hF (by assumption) | exact hT (by assumption)
  · refine Wp.step (fun k => by rw [slices_Index_int_int.l0]) ?_
    repeat' (first|(with_reducible refine Wp.itetB ?c_ ?_;(case c_=>first|exact Int.natCast_nonneg _|omega|assumption))|(with_reducible refine Wp.itefB ?c_ ?_;(case c_=>first|exact Int.natCast_nonneg _|omega|assumption))|(with_reducible refine Wp.itet ?c_ ?_;(case c_=>first|exact Int.natCast_nonneg _|omega|assumption))|(with_reducible refine Wp.itef ?c_ ?_;(case c_=>first|exact Int.natCast_nonneg _|omega|assumption))|(simp only [decide_eq_true_eq])|(with_reducible refine Wp.ret ?_)|(with_reducible refine Wp.itet ?c_ ?_;(case c_=>simp only [List.length_append, List.length_cons, List.length_nil, List.length_take, List.length_drop, List.length_replicate]; omega))|(with_reducible refine Wp.iteB (fun hc => ?_) (fun hc => ?_))|(with_reducible refine Wp.ite (fun hc => ?_) (fun hc => ?_)))
    all_goals rfl
theorem has_ev (l : List Int) (n : Int) (h : l.length ≤ 1000000000) : Ev (fun k => slices_Contains_int_int.f k l n) (B (n ∈ l)) := by
  unfold slices_Contains_int_int.f
  refine ((idx_ev l n h).bind Ev.ret).val ?_
  rw [dec_B, B_congr (fidx_ge.trans ?_)]
  constructor
  · rintro ⟨i, hi, rfl⟩; exact rd_mem (by omega) (by omega)
  · intro hm
    obtain ⟨i, hi, rfl⟩ := List.getElem_of_mem hm
    exact ⟨i, hi, (rd_get l hi).symm⟩
theorem nodup_snoc {l : List Int} {x : Int} (h : l.Nodup) (hx : x ∉ l) : (l ++ [x]).Nodup :=
  List.nodup_append.2 ⟨h, by simp, fun a ha b hb => by simp at hb; rw [hb]; exact fun e => hx (e ▸ ha)⟩
theorem spec_l25Once_ev (l : List Int) (hl : l.length ≤ 1000000000) (z : Nat) (hz : 1 ≤ z ∧ z ≤ 4) : Ev (fun k => spec_l25Once.f k l z) (B (Perm1 l z)) := by
  unfold spec_l25Once.f
  refine Wp.ev (Wp.itet (by omega) (Wp.itet (by omega) ?_))
  refine Wp.cnt1 l.length hl (fun q i seen => spec_l25Once.l0 q l z seen i) (fun i seen => seen.length = z ∧ (l.take i).Nodup ∧ (∀ x ∈ l.take i, 0 ≤ x ∧ x < (z : Int)) ∧ ∀ x : Nat, x < z → (rdOf false seen (x : Int) = true ↔ (x : Int) ∈ l.take i)) ?_ ?_ _ ⟨List.length_replicate, by simp, by simp, fun x hx => ?_⟩
  · rintro i seen hi hw ⟨h1, h2, h3, h4⟩ ih
    refine Wp.step (fun k => by rw [spec_l25Once.l0]) ?_
    have wz : wrap64 ((z : Int) - 1) = (z : Int) - 1 := wrap_id (by omega) (by omega)
    have et : l.take (i + 1) = l.take i ++ [rd l (i : Int)] := by
      rw [List.take_add_one, List.getElem?_eq_getElem hi, rd_get l hi]; rfl
    have hm : rd l (i : Int) ∈ l := rd_mem (by omega) (by omega)
    simp only [hw.e, wz]
    refine Wp.itet (by omega) (Wp.itet (by omega) (Wp.bindE (spec_l1In_ev _ _ _) (Wp.iteB (fun c => ?_) (fun c => Wp.ret ?_))))
    · obtain ⟨x, hx⟩ : ∃ x : Nat, rd l (i : Int) = x := ⟨(rd l (i : Int)).toNat, by omega⟩
      rw [hx] at c hm et ⊢
      have hxz : x < z := by omega
      refine Wp.itet (by omega) (Wp.itet (by omega) (Wp.ite (fun d => Wp.ret ?_) (fun d => ?_)))
      · have hd := (h4 x hxz).1 d
        rw [eqB]
        refine ⟨fun h => (by cases h), fun hp => ?_⟩
        exfalso
        have hn := (perm_iff.1 hp).1
        have e2 : l = l.take (i + 1) ++ l.drop (i + 1) := (List.take_append_drop ..).symm
        rw [e2, et] at hn
        have := (List.nodup_append.1 (List.nodup_append.1 hn).1).2.2 _ hd _ (List.mem_singleton.2 rfl)
        exact this rfl
      · have hnx : (x : Int) ∉ l.take i := fun e => d ((h4 x hxz).2 e)
        refine ih _ ⟨by rw [List.length_set]; exact h1, ?_, ?_, ?_⟩
        · rw [et]; exact nodup_snoc h2 hnx
        · rw [et]
          intro y hy
          rcases List.mem_append.1 hy with hy | hy
          · exact h3 y hy
          · simp at hy; omega
        · intro y hy
          rw [et]
          show (seen.set (x : Int).toNat true).getD (y : Int).toNat false = true ↔ _
          rw [Int.toNat_natCast, Int.toNat_natCast, List.getD_eq_getElem?_getD, List.getElem?_set]
          by_cases e : x = y
          · subst e
            simp [h1, hxz]
          · rw [if_neg e]
            have := h4 y hy
            rw [show (rdOf false seen (y : Int)) = (seen[y]?).getD false from by show seen.getD (y : Int).toNat false = _; rw [Int.toNat_natCast, List.getD_eq_getElem?_getD]] at this
            rw [this]
            have ne : ¬ (y : Int) = (x : Int) := by omega
            simp [ne]
    · rw [eqB]
      refine ⟨fun h => (by cases h), fun hp => ?_⟩
      have := (perm_iff.1 hp).2.1 _ hm
      omega
  · rintro seen ⟨h1, h2, h3, h4⟩
    refine Wp.step (fun k => by rw [spec_l25Once.l0]) ?_
    rw [List.take_length] at h2 h3
    refine Wp.itef (by omega) (Wp.ret ?_)
    rw [dec_B]
    refine B_congr ⟨fun h => perm_iff.2 ⟨h2, h3, by omega⟩, fun h => by have := h.1; omega⟩
  · show (List.replicate (z : Int).toNat false).getD (x : Int).toNat false = true ↔ _
    rw [Int.toNat_natCast, Int.toNat_natCast, List.getD_eq_getElem?_getD, List.getElem?_replicate]
    simp [hx]
noncomputable def renV (by_ : List Int) (z : Nat) (T : List (List Int)) (s : List I_Sym) (f k : Nat) : Int := ((pi_ by_ (rd (rd_Ls_i64 T f) ((mp (io_ by_) z (ar s f) k : Nat) : Int)).toNat : Nat) : Int)
theorem ren_at {s : List I_Sym} {z : Nat} {T : List (List Int)} (h : WorldOk s z T) {f : Nat} (hf : f < s.length) {k : Nat} (hk : k < z ^ ar s f) : k < (rd_Ls_i64 T f).length ∧ 0 ≤ rd (rd_Ls_i64 T f) (k : Int) ∧ rd (rd_Ls_i64 T f) (k : Int) < (z : Int) := by
  have r := wrow_at h hf (l := dgs z (ar s f) k) (dgs_len ..) (dgs_lt h.2.1.1 _ _)
  rw [plc_dgs h.2.1.1 _ _ hk] at r
  exact r
theorem io_inv {by_ : List Int} {z : Nat} (h : Perm1 by_ z) : ∀ d, d < z → io_ by_ d < z ∧ pi_ by_ (io_ by_ d) = d := fun d hd => (io_at h hd).2
theorem pi_inv {by_ : List Int} {z : Nat} (h : Perm1 by_ z) : ∀ d, d < z → pi_ by_ d < z ∧ io_ by_ (pi_ by_ d) = d := fun d hd => ⟨(pi_at h hd).2, io_pi h hd⟩
theorem ren_ok {s : List I_Sym} {z : Nat} {T : List (List Int)} {by_ : List Int} (h : WorldOk s z T) (hp : Perm1 by_ z) : WorldOk s z (tab s z (renV by_ z T s)) := by
  have z1 := h.2.1.1
  have vr : ∀ f, f < s.length → ∀ k, k < z ^ ar s f → (rd (rd_Ls_i64 T f) ((mp (io_ by_) z (ar s f) k : Nat) : Int)).toNat < z := by
    intro f hf k hk
    have := ren_at h hf (mp_inv z1 (io_inv hp) hk).1
    omega
  refine tab_ok h.1 h.2.1 (fun f hf k hk => ⟨Int.natCast_nonneg _, ilt (pi_at hp (vr f hf k hk)).2⟩) (fun f hf h2 => ?_)
  have A := wrow_blind h hf h2
  have o := op2_of (wrow_sq h hf h2)
  have e : ∀ p, p < z → ∀ q, q < z → (renV by_ z T s f (p + z * q)).toNat = pi_ by_ (opw z (rd_Ls_i64 T f) (io_ by_ p) (io_ by_ q)).toNat := by
    intro p hp' q hq
    rw [renV, sig_ar2 h.1 hf h2, mp, two_dgs hp' hq, Int.toNat_natCast]
    simp [plc, opw]
  intro p hp' q hq r hr
  have ip := io_inv hp p hp'; have iq := io_inv hp q hq; have ir := io_inv hp r hr
  have A1 := A _ ip.1 _ iq.1 _ ir.1
  have l1 := (o _ ip.1 _ iq.1).2
  have l2 := (o _ iq.1 _ ir.1).2
  show (renV by_ z T s f (p + z * q)).toNat = (renV by_ z T s f (q + z * p)).toNat ∧ (renV by_ z T s f ((renV by_ z T s f (p + z * q)).toNat + z * r)).toNat = (renV by_ z T s f (p + z * (renV by_ z T s f (q + z * r)).toNat)).toNat
  rw [e p hp' q hq, e q hq p hp', e q hq r hr, e _ (pi_at hp l1).2 r hr, e p hp' _ (pi_at hp l2).2, io_pi hp l1, io_pi hp l2]
  exact ⟨congrArg _ A1.1, congrArg _ A1.2⟩
theorem impl_each1_R_ev {by_ : List Int} {z : Nat} (hz : z ≤ 4) (hp : Perm1 by_ z) (l : List Nat) (hl : l.length ≤ 3) (hd : ∀ d ∈ l, d < z) : Ev (fun q => impl_each1__impl_Renamed_1_1.f q (ofN l) ([by_] : List (List Int)) 0) (ofN (l.map (io_ by_))) := by
  have hb : by_.length ≤ 1000000000 := by have := hp.1; omega
  unfold impl_each1__impl_Renamed_1_1.f
  rw [ofN_len]
  refine Wp.ev (Wp.cnt1 l.length (by omega) (fun q i acc => impl_each1__impl_Renamed_1_1.l0 q ([by_] : List (List Int)) 0 acc (ofN l) l.length i) (fun i acc => acc = ofN ((l.take i).map (io_ by_))) ?_ ?_ ([] : List Int) (by simp [ofN]))
  · rintro i acc hi hw rfl ih
    refine Wp.step (fun k => by rw [impl_each1__impl_Renamed_1_1.l0]) ?_
    have hm : l.getD i 0 < z := by
      rw [List.getD_eq_getElem?_getD, List.getElem?_eq_getElem hi]
      exact hd _ (List.getElem_mem hi)
    have hf : Ev (fun q => impl_Renamed_1_1_v2.f q (rd (ofN l) (i : Int)) ([by_] : List (List Int)) 0) ((io_ by_ (l.getD i 0) : Nat) : Int) := by
      unfold impl_Renamed_1_1_v2.f
      rw [ofN_rd hi, rdRow1]
      have := idx_ev by_ ((l.getD i 0 : Nat) : Int) hb
      rw [(io_at hp hm).1] at this
      exact this.bind Ev.ret
    simp only [hw.e]
    refine Wp.itet (by omega) (Wp.itet (by omega) (Wp.itet (by rw [ofN_len]; omega) (Wp.bindE hf (Wp.itet (by rw [ofN_len]; simp; omega) ?_))))
    exact ih _ (take_snoc hi)
  · rintro acc rfl
    refine Wp.step (fun k => by rw [impl_each1__impl_Renamed_1_1.l0]) ?_
    refine Wp.itef (by omega) (Wp.ret ?_)
    rw [List.take_length]
theorem impl_Renamed_1_ev {s : List I_Sym} {z : Nat} {T : List (List Int)} {by_ : List Int} (h : WorldOk s z T) (hp : Perm1 by_ z) {f : Nat} (hf : f < s.length) {k : Nat} (hk : k < z ^ ar s f) : Ev (fun q => impl_Renamed_1_v2.f q (f : Int) (ofN (dgs z (ar s f) k)) ([by_] : List (List Int)) 0 ([⟨(z : Int), T⟩] : List I_World) 0) (renV by_ z T s f k) := by
  have t := h.2.2.1
  have z1 := h.2.1.1
  have hr := sig_ar3 h.1 hf
  have m := mp_inv z1 (io_inv hp) hk
  have r := ren_at h hf m.1
  unfold impl_Renamed_1_v2.f
  simp only [rdW, rdRow1]
  have hd : ∀ d ∈ (dgs z (ar s f) k).map (io_ by_), d < z := by
    intro d hd
    obtain ⟨x, hx, rfl⟩ := List.mem_map.1 hd
    exact (io_inv hp x (dgs_lt z1 _ _ x hx)).1
  obtain ⟨v, hv⟩ : ∃ v : Nat, rd (rd_Ls_i64 T f) ((mp (io_ by_) z (ar s f) k : Nat) : Int) = v := ⟨_, (Int.toNat_of_nonneg r.2.1).symm⟩
  have e : renV by_ z T s f k = rd by_ (rd (rd_Ls_i64 T f) ((mp (io_ by_) z (ar s f) k : Nat) : Int)) := by
    rw [hv, (pi_at hp (by omega)).1, renV, hv, Int.toNat_natCast]
  have bl := hp.1
  refine Wp.ev (Wp.bindE (impl_each1_R_ev h.2.1.2 hp _ (by rw [dgs_len]; exact hr) (dgs_lt z1 _ _)) (Wp.itet (Int.natCast_nonneg _) (Wp.itet (ilt (t ▸ hf)) (Wp.bindE (impl_placeOf_ev z h.2.1 _ (by rw [List.length_map, dgs_len]; exact hr) hd) (Wp.itet (Int.natCast_nonneg _) (Wp.itet (ilt r.1) (Wp.itet r.2.1 (Wp.itet ?_ (Wp.ret e.symm)))))))))
  show rd (rd_Ls_i64 T f) ((mp (io_ by_) z (ar s f) k : Nat) : Int) < _
  omega
noncomputable def renRes (s : List I_Sym) (z : Nat) (T : List (List Int)) (by_ : List Int) : Int × List (List Int) × Bool := @ite _ (Perm1 by_ z) (Classical.propDecidable _) ((z : Int), tab s z (renV by_ z T s), true) (0, [], false)
theorem impl_Renamed_ok (s : List I_Sym) (hs : Names s) {z : Nat} {T : List (List Int)} {by_ : List Int} (hb : by_.length ≤ 1000000000) (rA : Rows T) (h : WorldOk s z T) : Ev (fun k => impl_Renamed.f k s z T by_) (renRes s z T by_) := by
  have z4 := h.2.1.2
  unfold impl_Renamed.f
  simp only [rdW, rdRow1]
  refine Wp.ev (Wp.bindE (impl_WorldOk_ev s z T hs rA) (Wp.itetB ⟨by omega, by rw [Int.toNat_natCast]; exact h⟩ (Wp.ite (fun c => ?_) (fun c => Wp.ret ?_))))
  · refine Wp.cnt0 z (by omega) (fun q i => impl_Renamed.l0 q s ([⟨(z : Int), T⟩] : List I_World) 0 ([by_] : List (List Int)) 0 z i 0) (fun i => ∀ j, j < i → (j : Int) ∈ by_) ?_ ?_ (fun j hj => absurd hj (Nat.not_lt_zero _))
    · intro i hi hw hI ih
      refine Wp.step (fun k => by rw [impl_Renamed.l0]) ?_
      simp only [hw.e, rdRow1]
      refine Wp.itet (by omega) (Wp.bindE (has_ev by_ i hb) (Wp.iteB (fun d => ih fun j hj => ?_) (fun d => Wp.ret ?_)))
      · rcases Nat.lt_or_eq_of_le (Nat.le_of_lt_succ hj) with h1 | h1
        · exact hI j h1
        · rw [h1]; exact d
      · rw [renRes, if_neg fun hp => d (hp.2 i hi)]
    · intro hI
      refine Wp.step (fun k => by rw [impl_Renamed.l0]) ?_
      have hp : Perm1 by_ z := ⟨by omega, hI⟩
      simp only [rdW]
      refine Wp.itef (by omega) (Wp.bindE (tabled_Renamed_ev s hs.1 (sig_ar h.1) z h.2.1 _ _ (renV by_ z T s) (fun f hf k hk => impl_Renamed_1_ev h hp hf hk)) (Wp.ret ?_))
      rw [renRes, if_pos hp]
  · rw [renRes, if_neg fun hp => c (by have := hp.1; omega)]
theorem spec_Renamed_row (s : List I_Sym) {z : Nat} {T : List (List Int)} {by_ : List Int} (h : WorldOk s z T) (hp : Perm1 by_ z) {f : Nat} (hf : f < s.length) (T' : List (List Int)) (row : List Int) (k : Nat) (hrow : row.length = z ^ ar s f) (hk : k < z ^ ar s f) {P : Int × List (List Int) × Bool → Prop}
    (next : Wp (fun q => spec_Renamed.l1 q s by_ f (row.set (mp (pi_ by_) z (ar s f) k) ((pi_ by_ (rd (rd_Ls_i64 T f) (k : Int)).toNat : Nat) : Int)) (((k + 1 : Nat) : Nat) : Int) z T 0 (z : Int) T') P) : Wp (fun q => spec_Renamed.l2 q s by_ f row k 0 k 1 0 z T 0 (z : Int) T') P := by
  have z1 := h.2.1.1
  have z4 := h.2.1.2
  have hr := sig_ar3 h.1 hf
  have sa := sig_ar h.1 f hf
  have e1 : (rd_I_Sym s (f : Int)).f1 = ((ar s f : Nat) : Int) := (Int.toNat_of_nonneg sa.1).symm
  have kb := pow64 z4 hr
  have k64 : k + 1 ≤ 64 := Nat.le_trans hk kb
  have f0 : 0 ≤ (f : Int) := Int.natCast_nonneg _
  have f1 : (f : Int) < (s.length : Int) := by omega
  have bl := hp.1
  have hw : wrap64 ((k : Int) + 1) = ((k + 1 : Nat) : Int) := wrS (m := k) (n := 1) k64
  have key : ∀ d i : Nat, i + d = ar s f → ∀ (l : List Nat) (m : Nat), l.length = i → (∀ x ∈ l, x < z) → m ≤ k → l ++ dgs z d m = dgs z (ar s f) k → Wp (fun q => spec_Renamed.l2 q s by_ f row k ((plc z (l.map (pi_ by_)) : Nat) : Int) m ((z ^ i : Nat) : Int) i z T 0 (z : Int) T') P := by
    intro d
    induction d with
    | zero =>
      intro i hi l m hl hd hm he
      rw [dgs, List.append_nil] at he
      subst he
      refine Wp.step (fun k => by rw [spec_Renamed.l2]) ?_
      have r1 := ren_at h hf hk
      have m1 := (mp_inv z1 (pi_inv hp) hk).1
      have t1 := h.2.2.1
      have i0 : ¬ (i : Int) < ((ar s f : Nat) : Int) := inlt (Nat.le_of_eq hi.symm)
      have t1' : (f : Int) < (T.length : Int) := ilt (t1 ▸ hf)
      obtain ⟨v, hv⟩ : ∃ v : Nat, rd (rd_Ls_i64 T f) (k : Int) = v := ⟨_, (Int.toNat_of_nonneg r1.2.1).symm⟩
      rw [hv] at r1 next
      have vz : v < z := by omega
      rw [Int.toNat_natCast] at next
      have hv2 : rd by_ (v : Int) = ((pi_ by_ v : Nat) : Int) := (pi_at hp vz).1
      rw [e1]
      show Wp (fun q => if 0 ≤ (f : Int) then (if (f : Int) < (s.length : Int) then (if (i : Int) < ((ar s f : Nat) : Int) then _ else (if (f : Int) < (T.length : Int) then (if 0 ≤ (k : Int) then (if (k : Int) < ((rd_Ls_i64 T (f : Int)).length : Int) then (if 0 ≤ (rd (rd_Ls_i64 T (f : Int)) (k : Int)) then (if (rd (rd_Ls_i64 T (f : Int)) (k : Int)) < (by_.length : Int) then (if 0 ≤ ((mp (pi_ by_) z (ar s f) k : Nat) : Int) then (if ((mp (pi_ by_) z (ar s f) k : Nat) : Int) < (row.length : Int) then (spec_Renamed.l1 q s by_ f (row.set ((mp (pi_ by_) z (ar s f) k : Nat) : Int).toNat (rd by_ (rd (rd_Ls_i64 T (f : Int)) (k : Int)))) (wrap64 ((k : Int) + 1)) z T 0 (z : Int) T') else none) else none) else none) else none) else none) else none) else none)) else none) else none) P
      simp only [hw, hv, hv2, Int.toNat_natCast]
      exact Wp.itet f0 (Wp.itet f1 (Wp.itef i0 (Wp.itet t1' (Wp.itet (Int.natCast_nonneg _) (Wp.itet (ilt r1.1) (Wp.itet (Int.natCast_nonneg _) (Wp.itet (ilt (bl ▸ vz)) (Wp.itet (Int.natCast_nonneg _) (Wp.itet (ilt (hrow ▸ m1)) next)))))))))
    | succ d ih =>
      intro i hi l m hl hd hm he
      rw [dgs] at he
      have hi2 : i < ar s f := by omega
      have hi3 : i + 1 + d = ar s f := by omega
      have hi4 : i + 1 ≤ 64 := by omega
      refine Wp.step (fun k => by rw [spec_Renamed.l2]) ?_
      rw [e1]
      have dl : m % z < z := Nat.mod_lt _ z1
      have hd' : ∀ x ∈ l ++ [m % z], x < z := by
        intro x hx
        rcases List.mem_append.1 hx with hx | hx
        · exact hd x hx
        · simp at hx; omega
      have ma : (l ++ [m % z]).map (pi_ by_) = l.map (pi_ by_) ++ [pi_ by_ (m % z)] := by rw [List.map_append]; rfl
      have pa := plc_lt z1 ((l ++ [m % z]).map (pi_ by_)) (fun x hx => by
        obtain ⟨y, hy, rfl⟩ := List.mem_map.1 hx
        exact (pi_at hp (hd' y hy)).2)
      have ha64 : z ^ (i + 1) ≤ 64 := pow64 z4 (by omega)
      have sa1 := plc_snoc z (l.map (pi_ by_)) (pi_ by_ (m % z))
      rw [List.length_map, hl] at sa1
      rw [List.length_map, List.length_append, hl, List.length_singleton, ma] at pa
      have nd : m / z ≤ m := Nat.div_le_self _ _
      have sA : plc z (l.map (pi_ by_)) + z ^ i * pi_ by_ (m % z) ≤ 64 := by rw [← sa1]; exact Nat.le_of_lt (Nat.lt_of_lt_of_le pa ha64)
      have w1 := wrM (Nat.le_trans (Nat.le_add_left _ _) sA)
      have w4 := wrS sA
      have w6 : wrap64 ((m / z : Nat) : Int) = ((m / z : Nat) : Int) := wrN (Nat.le_trans nd (Nat.le_trans hm (Nat.le_trans (Nat.le_of_lt hk) (Nat.le_trans kb (by decide)))))
      have w7 := wrM (m := z ^ i) (n := z) (by rw [← Nat.pow_succ]; exact ha64)
      have w9 : wrap64 ((i : Int) + 1) = ((i + 1 : Nat) : Int) := wrS (m := i) (n := 1) hi4
      have hv : rd by_ ((m % z : Nat) : Int) = ((pi_ by_ (m % z) : Nat) : Int) := (pi_at hp dl).1
      rw [← sa1, ← ma] at w4
      rw [← Nat.pow_succ] at w7
      simp only [tmod_nat, tdiv_nat, hv, w1, w4, w6, w7, w9]
      refine Wp.itet f0 (Wp.itet f1 (Wp.itet (ilt hi2) (Wp.itef (ine0 z1) (Wp.itet (Int.natCast_nonneg _) (Wp.itet (ilt (bl ▸ dl)) ?_)))))
      exact ih (i + 1) hi3 (l ++ [m % z]) _ (by rw [List.length_append, hl]; rfl) hd' (Nat.le_trans nd hm) (by rw [List.append_assoc]; exact he)
  exact key (ar s f) 0 (by omega) [] k rfl (fun x hx => nomatch hx) (Nat.le_refl _) rfl
theorem getD_ext0 {l : List Int} {n : Nat} {g : Nat → Int} (hl : l.length = n) (h : ∀ k, k < n → l.getD k 0 = g k) : l = (List.range n).map g := by
  refine List.ext_getElem (by rw [hl, List.length_map, List.length_range]) (fun i h1 h2 => ?_)
  rw [List.getElem_map, List.getElem_range, ← h i (by omega), List.getD_eq_getElem?_getD, List.getElem?_eq_getElem h1]
  rfl
theorem spec_Renamed_ok (s : List I_Sym) (hs : Names s) {z : Nat} {T : List (List Int)} {by_ : List Int} (hb : by_.length ≤ 1000000000) (rA : Rows T) (h : WorldOk s z T) : Ev (fun k => spec_Renamed.f k s z T by_) (renRes s z T by_) := by
  have hsl := hs.1
  have z4 := h.2.1.2
  have z1 := h.2.1.1
  have t1 := h.2.2.1
  unfold spec_Renamed.f
  refine Wp.ev (Wp.bindE (spec_WorldOk_ev s z T hs rA) (Wp.itetB ⟨by omega, by rw [Int.toNat_natCast]; exact h⟩ (Wp.bindE (spec_l25Once_ev by_ hb z h.2.1) (Wp.iteB (fun hp => ?_) (fun hp => Wp.ret ?_)))))
  · rw [renRes, if_pos hp]
    refine Wp.cnt1 s.length hsl (fun q i T' => spec_Renamed.l0 q s by_ i z T 0 (z : Int) T') (fun i T' => T' = (List.range i).map fun f => (List.range (z ^ ar s f)).map (renV by_ z T s f)) ?_ ?_ ([] : List (List Int)) rfl
    · rintro i T' hi hw rfl ih
      refine Wp.step (fun k => by rw [spec_Renamed.l0]) ?_
      have hr := sig_ar3 h.1 hi
      have kb := pow64 z4 hr
      have hlen : (rd_Ls_i64 T (i : Int)).length = z ^ ar s i := (h.2.2.2 i hi).1
      rw [hlen, Int.toNat_natCast]
      refine Wp.itet (by omega) (Wp.itet (by omega) (Wp.itet (by omega) (Wp.itet (by omega) (Wp.itet (by omega) ?_))))
      refine Wp.cnt1 (z ^ ar s i) (by omega) (fun q k row => spec_Renamed.l1 q s by_ i row k z T 0 (z : Int) ((List.range i).map fun f => (List.range (z ^ ar s f)).map (renV by_ z T s f))) (fun k row => row.length = z ^ ar s i ∧ ∀ j, j < k → row.getD (mp (pi_ by_) z (ar s i) j) 0 = ((pi_ by_ (rd (rd_Ls_i64 T i) (j : Int)).toNat : Nat) : Int)) ?_ ?_ (List.replicate (z ^ ar s i) (0 : Int)) ⟨List.length_replicate, fun j hj => absurd hj (Nat.not_lt_zero _)⟩
      · rintro k row hk hwk ⟨hl, hrow⟩ ih2
        refine Wp.step (fun k => by rw [spec_Renamed.l1]) ?_
        refine Wp.itet (by omega) (spec_Renamed_row s h hp hi _ row k hl hk (ih2 _ ⟨by rw [List.length_set]; exact hl, fun j hj => ?_⟩))
        have mk := mp_inv z1 (pi_inv hp) hk
        rw [List.getD_eq_getElem?_getD, List.getElem?_set]
        by_cases e : mp (pi_ by_) z (ar s i) k = mp (pi_ by_) z (ar s i) j
        · have jk : j = k := by
            have mj := mp_inv z1 (pi_inv hp) (r := ar s i) (k := j) (by omega)
            rw [← mj.2, ← e, mk.2]
          subst jk
          simp [hl, mk.1]
        · rw [if_neg e, ← List.getD_eq_getElem?_getD]
          refine hrow j ?_
          rcases Nat.lt_or_eq_of_le (Nat.le_of_lt_succ hj) with h1 | h1
          · exact h1
          · rw [h1] at e; exact absurd rfl e
      · rintro row ⟨hl, hrow⟩
        refine Wp.step (fun k => by rw [spec_Renamed.l1]) ?_
        simp only [hw.e]
        refine Wp.itef (by omega) (Wp.itet (by simp; omega) ?_)
        have er : row = (List.range (z ^ ar s i)).map (renV by_ z T s i) := by
          refine getD_ext0 hl (fun k hk => ?_)
          have m := mp_inv z1 (io_inv hp) hk
          have := hrow _ m.1
          rw [m.2] at this
          exact this
        rw [er]
        exact ih _ (range_snoc (fun f => (List.range (z ^ ar s f)).map (renV by_ z T s f)) i)
    · rintro T' rfl
      refine Wp.step (fun k => by rw [spec_Renamed.l0]) ?_
      exact Wp.itef (by omega) (Wp.ret rfl)
  · rw [renRes, if_neg hp]
/-! #### what of it is finite -/
theorem Fin_.mono {α : Type} {P Q : α → Prop} (h : Fin_ P) (k : ∀ a, Q a → P a) : Fin_ Q := by
  obtain ⟨L, hL⟩ := h
  exact ⟨L, fun y hy => hL y (k y hy)⟩
theorem Fin_.prod {α β : Type} {P : α → Prop} {Q : β → Prop} (h : Fin_ P) (k : Fin_ Q) : Fin_ (fun y : α × β => P y.1 ∧ Q y.2) := by
  obtain ⟨L, hL⟩ := h
  obtain ⟨M, hM⟩ := k
  exact ⟨L.flatMap fun a => M.map fun b => (a, b), fun y hy => List.mem_flatMap.2 ⟨y.1, hL _ hy.1, List.mem_map.2 ⟨y.2, hM _ hy.2, rfl⟩⟩⟩
theorem Fin_.one {α : Type} (a : α) : Fin_ (fun y => y = a) := ⟨[a], fun y hy => by rw [hy]; exact List.mem_singleton.2 rfl⟩
theorem Fin_.list {α : Type} {P : α → Prop} (h : Fin_ P) : ∀ n : Nat, Fin_ (fun l : List α => l.length ≤ n ∧ ∀ x ∈ l, P x) := by
  obtain ⟨L, hL⟩ := h
  intro n
  induction n with
  | zero => exact ⟨[[]], fun l hl => by rw [List.length_eq_zero_iff.1 (Nat.le_zero.1 hl.1)]; exact List.mem_singleton.2 rfl⟩
  | succ n ih =>
    obtain ⟨M, hM⟩ := ih
    refine ⟨[] :: L.flatMap fun a => M.map fun b => a :: b, fun l hl => ?_⟩
    cases l with
    | nil => exact List.mem_cons_self
    | cons a l => exact List.mem_cons_of_mem _ (List.mem_flatMap.2 ⟨a, hL _ (hl.2 a List.mem_cons_self), List.mem_map.2 ⟨l, hM _ ⟨Nat.le_of_succ_le_succ hl.1, fun x hx => hl.2 x (List.mem_cons_of_mem _ hx)⟩, rfl⟩⟩)
def Sm (x : Int) : Prop := -100 ≤ x ∧ x ≤ 100
theorem fin_Sm : Fin_ Sm := ⟨(List.range 201).map fun n : Nat => (n : Int) - 100, fun x hx => List.mem_map.2 ⟨(x + 100).toNat, List.mem_range.2 (by have := hx.2; omega), by have := hx.1; omega⟩⟩
/-- a small table -/
def Tb (T : List (List Int)) : Prop := T.length ≤ 7 ∧ ∀ x ∈ T, x.length ≤ 64 ∧ ∀ y ∈ x, Sm y
theorem fin_Tb : Fin_ Tb := Fin_.list (Fin_.list fin_Sm 64) 7
theorem Tb.rows {T : List (List Int)} (h : Tb T) : Rows T := fun x hx => by have := (h.2 x hx).1; omega
theorem Dm.step {Y : Type} {P : Y → Prop} {G G' : Nat → (R : Type) → (Y → Option R) → Option R} (h : ∀ k R K, G (k + 1) R K = G' k R K) (d : Dm G' P) : Dm G P := by
  obtain ⟨hP, M, hM⟩ := d
  refine ⟨hP, M + 1, fun k hk R K r hK => ?_⟩
  obtain ⟨k, rfl⟩ : ∃ j, k = j + 1 := ⟨k - 1, by omega⟩
  rw [h]
  exact hM k (by omega) R K r hK
/-! #### what a written cell may have changed -/
theorem chS_int {W : Dyn TT.ST → Prop} {k : IntKind} {n m : Int} (h : ChS TT W (.int k n) (.int k m)) : m = n := by
  rcases h with h | ⟨e, xs, ys, h, _⟩
  · injection h with _ h; exact h.symm
  · cases h
theorem chD_int {v n m : Int} (h : ChD TT (fun d => d = .int .i64 v) (.int .i64 n) (.int .i64 m)) : m = n ∨ m = v := by
  cases h with
  | same => exact .inl rfl
  | put _ _ _ hw => injection hw with _ hw; exact .inr hw
theorem chD_u8 {v n m : Int} (h : ChD TT (fun d => d = .int .i64 v) (.int .u8 n) (.int .u8 m)) : m = n := by
  cases h with
  | same => rfl
  | put _ _ _ hw => injection hw with hw _; cases hw
theorem chD_row {v : Int} {x y : List Int} (h : ChD TT (fun d => d = .int .i64 v) (.lst (.int .i64) x) (.lst (.int .i64) y)) : y.length = x.length ∧ ∀ (j : Nat) (a b : Int), x[j]? = some a → y[j]? = some b → b = a ∨ b = v := by
  cases h with
  | same => exact ⟨rfl, fun j a b ha hb => by rw [ha] at hb; exact .inl (Option.some.inj hb).symm⟩
  | put _ _ _ hw => cases hw
  | lst _ _ _ hl h => exact ⟨hl, fun j a b ha hb => chD_int (h j a b ha hb 0 _ _ rfl rfl)⟩
theorem chS_u8 {v : Int} {x y : List Int} (h : ChS TT (fun d => d = .int .i64 v) (.lst (.int .u8) x) (.lst (.int .u8) y)) : y = x := by
  rcases h with h | ⟨e, xs, ys, h1, h2, hl, h⟩
  · injection h with _ h; exact h.symm
  · cases h1
    cases h2
    refine List.ext_getElem hl (fun i a b => ?_)
    exact chD_u8 (h i _ _ (List.getElem?_eq_getElem b) (List.getElem?_eq_getElem a) 0 _ _ rfl rfl)
theorem chS_rows {v : Int} {x y : List (List Int)} (h : ChS TT (fun d => d = .int .i64 v) (.lst (.lst (.int .i64)) x) (.lst (.lst (.int .i64)) y)) : y.length = x.length ∧ ∀ (i : Nat) (a b : List Int), x[i]? = some a → y[i]? = some b → b.length = a.length ∧ ∀ (j : Nat) (p q : Int), a[j]? = some p → b[j]? = some q → q = p ∨ q = v := by
  rcases h with h | ⟨e, xs, ys, h1, h2, hl, h⟩
  · injection h with _ h
    obtain rfl := h
    exact ⟨rfl, fun i a b ha hb => by
      rw [ha] at hb
      obtain rfl := Option.some.inj hb
      exact ⟨rfl, fun j p q hp hq => by rw [hp] at hq; exact .inl (Option.some.inj hq).symm⟩⟩
  · cases h1
    cases h2
    exact ⟨hl, fun i a b ha hb => chD_row (h i a b ha hb 0 _ _ rfl rfl)⟩
theorem ch_tb {v : Int} (hv : Sm v) {x y : List (List Int)} (h : ChS TT (fun d => d = .int .i64 v) (.lst (.lst (.int .i64)) x) (.lst (.lst (.int .i64)) y)) (hx : Tb x) : Tb y ∧ y.length = x.length ∧ ∀ i : Nat, (rd_Ls_i64 y i).length = (rd_Ls_i64 x i).length := by
  obtain ⟨h1, h2⟩ := chS_rows h
  refine ⟨⟨by rw [h1]; exact hx.1, fun r hr => ?_⟩, h1, fun i => ?_⟩
  · obtain ⟨i, hi, rfl⟩ := List.getElem_of_mem hr
    have a := h2 i _ _ (List.getElem?_eq_getElem (by omega)) (List.getElem?_eq_getElem hi)
    have b := hx.2 _ (List.getElem_mem (l := x) (n := i) (by omega))
    refine ⟨by rw [a.1]; exact b.1, fun q hq => ?_⟩
    obtain ⟨j, hj, rfl⟩ := List.getElem_of_mem hq
    have hj' : j < x[i].length := by have := a.1; omega
    rcases a.2 j _ _ (List.getElem?_eq_getElem hj') (List.getElem?_eq_getElem hj) with c | c
    · rw [c]; exact b.2 _ (List.getElem_mem hj')
    · rw [c]; exact hv
  · show (y.getD (i : Int).toNat []).length = (x.getD (i : Int).toNat []).length
    rw [Int.toNat_natCast, List.getD_eq_getElem?_getD, List.getD_eq_getElem?_getD]
    by_cases hi : i < x.length
    · rw [List.getElem?_eq_getElem hi, List.getElem?_eq_getElem (by omega)]
      exact (h2 i _ _ (List.getElem?_eq_getElem hi) (List.getElem?_eq_getElem (by omega))).1
    · rw [List.getElem?_eq_none (by omega), List.getElem?_eq_none (by omega)]
/-! #### worlds as drawn -/
theorem spec_l1Max_wp (a b : Int) : Wp (fun _ => spec_l1Max.f a b) (fun r => (r = a ∨ r = b) ∧ a ≤ r ∧ b ≤ r) := by
  unfold spec_l1Max.f
  refine Wp.ite (fun h => Wp.ret ?_) (fun h => Wp.ret ?_) <;> omega
theorem spec_l1Min_wp (a b : Int) : Wp (fun _ => spec_l1Min.f a b) (fun r => (r = a ∨ r = b) ∧ r ≤ a ∧ r ≤ b) := by
  unfold spec_l1Min.f
  refine Wp.ite (fun h => Wp.ret ?_) (fun h => Wp.ret ?_) <;> omega
theorem sm_of {t : Int} {p q : Nat} (hp : p ≤ 100) (hq : q ≤ 100) (h : t = p ∨ t = q) : Sm t := by
  rcases h with rfl | rfl
  · exact ⟨by omega, by omega⟩
  · exact ⟨by omega, by omega⟩
theorem sm_lt {t : Int} (h : 0 ≤ t) (k : t ≤ 100) : Sm t := ⟨by omega, by omega⟩
theorem wrS2 {m n : Nat} (h : m + n ≤ 200) : wrap64 ((m : Int) + (n : Int)) = ((m + n : Nat) : Int) := by rw [← Int.natCast_add]; exact wrN (by omega)
def Row1 (x : List Int) : Prop := 1 ≤ x.length ∧ x.length ≤ 64 ∧ ∀ y ∈ x, Sm y
theorem snoc_all {α : Type} {P : α → Prop} {l : List α} {a : α} (h : ∀ x ∈ l, P x) (ha : P a) : ∀ x ∈ l ++ [a], P x := by
  intro x hx
  rcases List.mem_append.1 hx with hx | hx
  · exact h x hx
  · rw [List.mem_singleton.1 hx]; exact ha
theorem sig2_ar (i : Nat) (hi : i < sig2.length) : 0 ≤ (rd_I_Sym sig2 i).f1 ∧ (rd_I_Sym sig2 i).f1 ≤ 3 := by
  have h := sig2_ars (rd_I_Sym sig2 i) (by
    show sig2.getD (i : Int).toNat _ ∈ sig2
    rw [Int.toNat_natCast, List.getD_eq_getElem?_getD, List.getElem?_eq_getElem hi]
    exact List.getElem_mem hi)
  exact ⟨h.1, h.2.1⟩
theorem spec_l24DrawFor_v2_wp (z : Nat) (hz : 1 ≤ z ∧ z ≤ 4) {b : List Int} {i : Int} (h : Int) (hc : Cur b i) : Wp (fun k => spec_l24DrawFor_v2.f k sig2 z b i h) (fun r => r.1 = z ∧ r.2.1.length = 7 ∧ (∀ x ∈ r.2.1, Row1 x) ∧ Cur r.2.2.1 r.2.2.2.1) := by
  have sl : sig2.length = 7 := rfl
  unfold spec_l24DrawFor_v2.f
  refine Wp.cnt4 7 (by omega) (fun q j T b i h => spec_l24DrawFor_v2.l0 q sig2 z j 0 z T b i h) (fun j T b i h => T.length = j ∧ (∀ x ∈ T, Row1 x) ∧ Cur b i) ?_ ?_ ([] : List (List Int)) b i h ⟨rfl, fun x hx => (nomatch hx), hc⟩
  · rintro j T b i h hj hw ⟨hl, hT, hc⟩ ih
    refine Wp.step (fun k => by rw [spec_l24DrawFor_v2.l0]) ?_
    have sa := sig2_ar j (by omega)
    obtain ⟨a, ha⟩ : ∃ a : Nat, (rd_I_Sym sig2 (j : Int)).f1 = a := ⟨_, (Int.toNat_of_nonneg sa.1).symm⟩
    have a3 : a ≤ 3 := by omega
    have p64 := pow64 hz.2 a3
    have p1 : 0 < z ^ a := Nat.pow_pos hz.1
    refine Wp.itet (by rw [sl]; omega) (Wp.bind (spec_l1Below_v2_wp 4 h hc) fun r hr => ?_)
    refine Wp.cnt4 (z ^ a) (by omega) (fun q m row b i h => spec_l24DrawFor_v2.l1 q sig2 z j row r.1 m 0 z T b i h) (fun m row b i _ => row.length = m ∧ (∀ y ∈ row, Sm y) ∧ Cur b i) ?_ ?_ ([] : List Int) _ _ _ ⟨rfl, fun x hx => (nomatch hx), hr.2⟩
    · rintro m row b i h hm hwm ⟨hml, hrow, hc⟩ ih2
      refine Wp.step (fun k => by rw [spec_l24DrawFor_v2.l1]) ?_
      have room : row.length + 1 ≤ 1099511627776 := by omega
      have put : ∀ (v : Int) (b' : List Int) (i' h' : Int), Sm v → Cur b' i' → Wp (fun q => if row.length + 1 ≤ 1099511627776 then spec_l24DrawFor_v2.l1 q sig2 z j (row ++ [v]) r.1 (wrap64 ((m : Int) + 1)) 0 z T b' i' h' else none) _ := fun v b' i' h' hv hc' => Wp.itet room (by rw [hwm.e]; exact ih2 _ _ _ _ ⟨by rw [List.length_append, hml]; rfl, snoc_all hrow hv, hc'⟩)
      have md : Int.tmod (m : Int) (z : Int) = ((m % z : Nat) : Int) := tmod_nat ..
      have dv : Int.tdiv (m : Int) (z : Int) = ((m / z : Nat) : Int) := tdiv_nat ..
      have ml : m % z < z := Nat.mod_lt _ hz.1
      have dl : m / z ≤ m := Nat.div_le_self _ _
      have m64 : m ≤ 64 := Nat.le_trans (Nat.le_of_lt hm) p64
      have dw : wrap64 ((m / z : Nat) : Int) = ((m / z : Nat) : Int) := wrN (Nat.le_trans dl (Nat.le_trans m64 (by decide)))
      have z4 : z ≤ 4 := hz.2
      have sw := wrS2 (Nat.le_trans (Nat.add_le_add (Nat.le_of_lt ml) dl) (Nat.le_trans (Nat.add_le_add z4 m64) (by decide)))
      have s1 : m % z ≤ 100 := Nat.le_trans (Nat.le_of_lt ml) (Nat.le_trans z4 (by decide))
      have s2 : m / z ≤ 100 := Nat.le_trans dl (Nat.le_trans m64 (by decide))
      have s3 : (m % z + m / z) % z ≤ 100 := Nat.le_trans (Nat.le_of_lt (Nat.mod_lt _ hz.1)) (Nat.le_trans z4 (by decide))
      clear ml dl
      rw [ha]
      simp only [md, dv, dw, sw, tmod_nat]
      refine Wp.itet (by omega) (Wp.itet (by rw [sl]; omega) (Wp.bind (spec_l1Max_wp _ _) fun t2 h2 => ?_))
      obtain rfl : t2 = (a : Int) := by omega
      refine Wp.bindE (spec_l24Power_ev z hz a (by omega)) (Wp.itet (by omega) (Wp.bind (spec_l1Below_v2_wp z h hc) fun t4 h4 => ?_))
      refine Wp.ite (fun _ => Wp.itef (ine0 hz.1) ?_) (fun _ => put _ _ _ _ (sm_lt h4.1.1 (by have := h4.1.2; omega)) h4.2)
      refine Wp.ite (fun _ => ?_) (fun _ => Wp.ite (fun _ => ?_) (fun _ => Wp.ite (fun _ => ?_) (fun _ => ?_)))
      · exact Wp.bind (spec_l1Max_wp _ _) fun t5 h5 => put _ _ _ _ (sm_of s1 s2 h5.1) h4.2
      · exact Wp.bind (spec_l1Min_wp _ _) fun t5 h5 => put _ _ _ _ (sm_of s1 s2 h5.1) h4.2
      · exact put _ _ _ _ (sm_of s3 s3 (.inl rfl)) h4.2
      · exact put _ _ _ _ ⟨by decide, by decide⟩ h4.2
    · rintro row b i h ⟨hml, hrow, hc⟩
      refine Wp.step (fun k => by rw [spec_l24DrawFor_v2.l1]) ?_
      rw [ha]
      simp only [hw.e]
      refine Wp.itet (by omega) (Wp.itet (by rw [sl]; omega) (Wp.bind (spec_l1Max_wp _ _) fun t2 h2 => ?_))
      obtain rfl : t2 = (a : Int) := by omega
      refine Wp.bindE (spec_l24Power_ev z hz a (by omega)) (Wp.itef (by omega) (Wp.itet (by simp; omega) ?_))
      exact ih _ _ _ _ ⟨by rw [List.length_append, hl]; rfl, snoc_all hT ⟨by omega, by omega, hrow⟩, hc⟩
  · rintro T b i h ⟨hl, hT, hc⟩
    refine Wp.step (fun k => by rw [spec_l24DrawFor_v2.l0]) ?_
    exact Wp.itef (by rw [sl]; omega) (Wp.ret ⟨rfl, hl, hT, hc⟩)
/-! #### draws that may have written to a row -/
theorem ch6 {v : Int} {x y : TupT ST [.int .i64, .int .i64, .lst (.lst (.int .i64)), .lst (.int .u8), .int .i64, .int .i64]} (h : ChT TT (fun d => d = .int .i64 v) [.int .i64, .int .i64, .lst (.lst (.int .i64)), .lst (.int .u8), .int .i64, .int .i64] x y) :
    y.1 = x.1 ∧ y.2.1 = x.2.1 ∧ ChS TT (fun d => d = .int .i64 v) (.lst (.lst (.int .i64)) x.2.2.1) (.lst (.lst (.int .i64)) y.2.2.1) ∧ y.2.2.2.1 = x.2.2.2.1 ∧ y.2.2.2.2.1 = x.2.2.2.2.1 ∧ y.2.2.2.2.2 = x.2.2.2.2.2 := by
  obtain ⟨⟨_, _, h1, h2, a⟩, ⟨_, _, h3, h4, b⟩, ⟨_, _, h5, h6, c⟩, ⟨_, _, h7, h8, d⟩, ⟨_, _, h9, h10, e⟩, ⟨_, _, h11, h12, f⟩, _⟩ := h
  cases h1; cases h2; cases h3; cases h4; cases h5; cases h6; cases h7; cases h8; cases h9; cases h10; cases h11; cases h12
  exact ⟨chS_int a, chS_int b, c, chS_u8 d, chS_int e, chS_int f⟩
theorem ch8 {v : Int} {x y : TupT ST [.int .i64, .int .i64, .int .i64, .int .i64, .lst (.lst (.int .i64)), .lst (.int .u8), .int .i64, .int .i64]} (h : ChT TT (fun d => d = .int .i64 v) [.int .i64, .int .i64, .int .i64, .int .i64, .lst (.lst (.int .i64)), .lst (.int .u8), .int .i64, .int .i64] x y) :
    y.1 = x.1 ∧ y.2.1 = x.2.1 ∧ y.2.2.1 = x.2.2.1 ∧ y.2.2.2.1 = x.2.2.2.1 ∧ ChS TT (fun d => d = .int .i64 v) (.lst (.lst (.int .i64)) x.2.2.2.2.1) (.lst (.lst (.int .i64)) y.2.2.2.2.1) ∧ y.2.2.2.2.2.1 = x.2.2.2.2.2.1 ∧ y.2.2.2.2.2.2.1 = x.2.2.2.2.2.2.1 ∧ y.2.2.2.2.2.2.2 = x.2.2.2.2.2.2.2 := by
  obtain ⟨⟨_, _, h1, h2, a⟩, ⟨_, _, h3, h4, b⟩, ⟨_, _, h5, h6, c⟩, ⟨_, _, h7, h8, d⟩, ⟨_, _, h9, h10, e⟩, ⟨_, _, h11, h12, f⟩, ⟨_, _, h13, h14, g⟩, ⟨_, _, h15, h16, i⟩, _⟩ := h
  cases h1; cases h2; cases h3; cases h4; cases h5; cases h6; cases h7; cases h8; cases h9; cases h10; cases h11; cases h12; cases h13; cases h14; cases h15; cases h16
  exact ⟨chS_int a, chS_int b, chS_int c, chS_int d, e, chS_u8 f, chS_int g, chS_int i⟩
theorem row1_tb {T : List (List Int)} (hl : T.length ≤ 7) (h : ∀ x ∈ T, Row1 x) : Tb T := ⟨hl, fun x hx => (h x hx).2⟩
theorem below_z {r : Int} {n : Int} (h : 0 ≤ r ∧ (r < n ∨ (n ≤ 0 ∧ r = 0))) (h1 : 1 ≤ n) (h4 : n ≤ 4) : ∃ z : Nat, wrap64 (1 + r) = z ∧ 1 ≤ z ∧ z ≤ 4 :=
  ⟨(1 + r).toNat, by rw [wrap_id (by omega) (by omega)]; omega, by omega, by omega⟩
theorem sm_z {z : Nat} (h : z ≤ 4) : Sm (z : Int) := ⟨by omega, by omega⟩
theorem l24Draw_dm {Y : Type} {P : Y → Prop} (hP : Fin_ P) {b : List Int} {i : Int} (h : Int) (hc : Cur b i) (F : Int × List (List Int) × List Int × Int × Int → Nat → (R : Type) → (Y → Option R) → Option R)
    (hF : ∀ y, Sm y.1 → Tb y.2.1 → Cur y.2.2.1 y.2.2.2.1 → Dm (F y) P) : Dm (fun n R K => spec_l24Draw_v2.f n (R := R) sig2 b i h (fun y => F y n R K)) P := by
  unfold spec_l24Draw_v2.f
  refine Dm.bind (spec_l1Below_v2_wp 4 h hc) fun t1 h1 => ?_
  obtain ⟨z, hz, hz1, hz4⟩ := below_z h1.1 (by decide) (by decide)
  rw [hz]
  refine Dm.bind (spec_l24DrawFor_v2_wp z ⟨hz1, hz4⟩ _ h1.2) fun t2 h2 => ?_
  obtain ⟨e2, l2, r2, c2⟩ := h2
  have tb := row1_tb (Nat.le_of_eq l2) r2
  have smz : Sm t2.1 := by rw [e2]; exact sm_z hz4
  refine Dm.bind (spec_l1Below_v2_wp 8 _ c2) fun t3 h3 => Dm.ite (fun _ => ?_) (fun _ => Dm.ite (fun _ => ?_) (fun _ => Dm.ite (fun _ => ?_) (fun _ => hF _ smz tb h3.2)))
  · refine Dm.bind (spec_l1PickInt_v2_wp _ (by simp) _ h3.2) fun t4 h4 => hF _ ?_ tb h4.2
    have := h4.1
    simp only [List.mem_cons, List.not_mem_nil, or_false] at this
    show Sm t4.1
    exact ⟨by omega, by omega⟩
  · refine Dm.bind (spec_l1Below_v2_wp _ _ h3.2) fun t5 h5 => ?_
    have q0 := h5.1.1
    have q1 : t5.1 < (t2.2.1.length : Int) := by have := h5.1.2; omega
    refine Dm.itet q0 (Dm.itet q1 (Dm.bind (spec_l1PickInt_v2_wp _ (by simp) _ h5.2) fun t6 h6 => ?_))
    have sv : Sm t6.1 := by
      have := h6.1
      simp only [List.mem_cons, List.not_mem_nil, or_false] at this
      exact ⟨by omega, by omega⟩
    have rl := (r2 _ (rdRow_mem q0 q1)).1
    refine Dm.itet (by omega) ?_
    refine Dm.rel (Y := TupT ST [.int .i64, .int .i64, .lst (.lst (.int .i64)), .lst (.int .u8), .int .i64, .int .i64]) (G := fun _ R K => relB _ K) (F := fun (y : TupT ST [.int .i64, .int .i64, .lst (.lst (.int .i64)), .lst (.int .u8), .int .i64, .int .i64]) n R K => F (y.2.1, y.2.2.1, y.2.2.2.1, y.2.2.2.2.1, y.2.2.2.2.2) n R K) hP (relB_dm ?_ ⟨_, CL.refl (allD_cells _ _)⟩) (fun y hy => ?_)
    · refine Fin_.mono (Fin_.prod (Fin_.one (0 : Int)) (Fin_.prod (Fin_.one t2.1) (Fin_.prod fin_Tb (Fin_.prod (Fin_.one t6.2.1) (Fin_.prod (Fin_.one t6.2.2.1) (Fin_.one t6.2.2.2)))))) (fun y hy => ?_)
      obtain ⟨a, b', c, d, e, f⟩ := ch6 hy
      exact ⟨a, b', (ch_tb sv c tb).1, d, e, f⟩
    · obtain ⟨a, b', c, d, e, f⟩ := ch6 hy
      exact hF _ (by show Sm y.2.1; rw [b']; exact smz) (ch_tb sv c tb).1 (by show Cur y.2.2.2.1 y.2.2.2.2.1; rw [d, e]; exact h6.2)
  · exact Dm.itet (by omega) (hF _ smz ⟨by rw [List.length_drop]; omega, fun x hx => tb.2 x (List.mem_of_mem_drop hx)⟩ h3.2)
def PP (y : List I_Sym × Int × List (List Int) × Int × List (List Int)) : Prop := y.1 = sig2 ∧ Sm y.2.1 ∧ Tb y.2.2.1 ∧ Sm y.2.2.2.1 ∧ Tb y.2.2.2.2
theorem fin_PP : Fin_ PP := Fin_.prod (Fin_.one sig2) (Fin_.prod fin_Sm (Fin_.prod fin_Tb (Fin_.prod fin_Sm fin_Tb)))
theorem drawProduct_dm (x : List Int) (hx : x.length ≤ 1048576) : Dm (fun n R K => spec_DrawProduct_v2.f n (R := R) x K) PP := by
  unfold spec_DrawProduct_v2.f
  refine Dm.bind (spec_l1New_v2_wp x hx) fun t1 h1 => Dm.bindE spec_l2Sig_ev (Dm.bind (spec_l1Below_v2_wp 2 _ h1) fun t3 h3 => ?_)
  obtain ⟨z, hz, hz1, hz4⟩ := below_z h3.1 (by decide) (by decide)
  rw [hz]
  refine Dm.bind (spec_l24DrawFor_v2_wp z ⟨hz1, hz4⟩ _ h3.2) fun t4 h4 => Dm.bindE spec_l2Sig_ev (Dm.bind (spec_l1Below_v2_wp 2 _ h4.2.2.2) fun t6 h6 => ?_)
  obtain ⟨w, hw, hw1, hw4⟩ := below_z h6.1 (by decide) (by decide)
  rw [hw]
  have tb4 := row1_tb (Nat.le_of_eq h4.2.1) h4.2.2.1
  have s4 : Sm t4.1 := by rw [h4.1]; exact sm_z hz4
  refine Dm.bind (spec_l24DrawFor_v2_wp w ⟨hw1, hw4⟩ _ h6.2) fun t7 h7 => Dm.bind (spec_l1Once_v2_wp 6 _ h7.2.2.2) fun t8 h8 => Dm.ite (fun _ => Dm.bindE spec_l2Sig_ev ?_) (fun _ => ?_)
  · refine l24Draw_dm fin_PP _ h8 (fun t10 k R K => spec_DrawProduct_v2.j0 K k 0 0 t4.1 t4.2.1 t10.1 t10.2.1) (fun y s t c => ?_)
    exact Dm.step (fun k R K => by rw [spec_DrawProduct_v2.j0]) (Dm.bindE spec_l2Sig_ev (Dm.ret fin_PP ⟨rfl, s4, tb4, s, t⟩))
  · exact Dm.step (G := fun k R K => spec_DrawProduct_v2.j0 K k 0 0 t4.1 t4.2.1 t7.1 t7.2.1) (fun k R K => by rw [spec_DrawProduct_v2.j0]) (Dm.bindE spec_l2Sig_ev (Dm.ret fin_PP (y := (sig2, t4.1, t4.2.1, t7.1, t7.2.1)) ⟨rfl, s4, tb4, by show Sm t7.1; rw [h7.1]; exact sm_z hw4, row1_tb (Nat.le_of_eq h7.2.1) h7.2.2.1⟩))
def PR (y : List I_Sym × List Int × Int × List (List Int)) : Prop := y.1 = sig2 ∧ (y.2.1.length ≤ 100 ∧ ∀ v ∈ y.2.1, Sm v) ∧ Sm y.2.2.1 ∧ Tb y.2.2.2
theorem fin_PR : Fin_ PR := Fin_.prod (Fin_.one sig2) (Fin_.prod (Fin_.list fin_Sm 100) (Fin_.prod fin_Sm fin_Tb))
theorem set_all {l : List Int} (h : ∀ x ∈ l, Sm x) {v : Int} (hv : Sm v) (i : Nat) : ∀ x ∈ l.set i v, Sm x := by
  intro x hx
  rcases List.mem_or_eq_of_mem_set hx with h1 | h1
  · exact h x h1
  · rw [h1]; exact hv
theorem drawRenamed1_dm (z : Int) (hz : Sm z) (T : List (List Int)) (hT : Tb T) : ∀ (d : Nat) (l : List Int) (j : Nat) (b : List Int) (i h : Int), j + d = l.length → l.length ≤ 100 → (∀ v ∈ l, Sm v) → Cur b i → Dm (fun n R K => spec_DrawRenamed_v2.l1 (R := R) K n l j 0 z T b i h) PR := by
  intro d
  induction d with
  | zero =>
    intro l j b i h hj hl hs hc
    refine Dm.step (fun k R K => by rw [spec_DrawRenamed_v2.l1]) ?_
    refine Dm.itef (by omega) (Dm.bind (spec_l1Once_v2_wp 8 _ hc) fun t10 h10 => Dm.ite (fun _ => Dm.ite (fun hp => Dm.bind (spec_l1Below_v2_wp 6 _ h10) fun t11 h11 => Dm.itet (by omega) (Dm.bindE spec_l2Sig_ev (Dm.ret fin_PR ⟨rfl, ⟨Nat.le_trans (Nat.le_of_eq List.length_set) hl, set_all hs ?_ _⟩, hz, hT⟩))) (fun _ => Dm.bindE spec_l2Sig_ev (Dm.ret fin_PR ⟨rfl, ⟨hl, hs⟩, hz, hT⟩))) (fun _ => Dm.bindE spec_l2Sig_ev (Dm.ret fin_PR ⟨rfl, ⟨hl, hs⟩, hz, hT⟩)))
    have := h11.1
    rw [wrap_id (by omega) (by omega)]
    exact ⟨by omega, by omega⟩
  | succ d ih =>
    intro l j b i h hj hl hs hc
    refine Dm.step (fun k R K => by rw [spec_DrawRenamed_v2.l1]) ?_
    refine Dm.itet (by omega) (Dm.bind (spec_l1Below_v2_wp _ _ hc) fun t9 h9 => ?_)
    have q0 := h9.1.1
    have q1 : t9.1 < (l.length : Int) := by have := h9.1.2; omega
    have w1 : wrap64 ((j : Int) + 1) = ((j + 1 : Nat) : Int) := wrS2 (m := j) (n := 1) (by omega)
    rw [w1]
    refine Dm.itet (by omega) (Dm.itet q0 (Dm.itet q1 (Dm.itet (by rw [List.length_set]; exact q1) (ih _ _ _ _ _ (by rw [List.length_set, List.length_set]; omega) (by rw [List.length_set, List.length_set]; exact hl) ?_ h9.2))))
    exact set_all (set_all hs (hs _ (rd_mem q0 q1)) _) (hs _ (rd_mem (by omega) (by omega))) _
theorem drawRenamed0_dm (z : Int) (hz : Sm z) (T : List (List Int)) (hT : Tb T) {b : List Int} {i : Int} (h : Int) (hc : Cur b i) : ∀ (d : Nat) (l : List Int), l.length + d = z.toNat → (∀ v ∈ l, Sm v) → Dm (fun n R K => spec_DrawRenamed_v2.l0 (R := R) K n l (l.length : Int) 0 z T b i h) PR := by
  have := hz.2
  intro d
  induction d with
  | zero =>
    intro l hl hs
    refine Dm.step (fun k R K => by rw [spec_DrawRenamed_v2.l0]) ?_
    exact Dm.bind (spec_l1Max_wp _ _) fun t8 h8 => Dm.itef (by omega) (drawRenamed1_dm z hz T hT l.length l 0 b i h (by omega) (by omega) hs hc)
  | succ d ih =>
    intro l hl hs
    refine Dm.step (fun k R K => by rw [spec_DrawRenamed_v2.l0]) ?_
    have w1 : wrap64 ((l.length : Int) + 1) = (((l ++ [(l.length : Int)]).length : Nat) : Int) := by
      rw [List.length_append, List.length_singleton]
      exact wrS2 (m := l.length) (n := 1) (by omega)
    rw [w1]
    refine Dm.bind (spec_l1Max_wp _ _) fun t8 h8 => Dm.itet (by omega) (Dm.itet (by show l.length + 1 ≤ _; omega) (ih (l ++ [(l.length : Int)]) (by rw [List.length_append, List.length_singleton]; omega) (snoc_all hs ⟨by omega, by omega⟩)))
theorem drawRenamed_dm (x : List Int) (hx : x.length ≤ 1048576) : Dm (fun n R K => spec_DrawRenamed_v2.f n (R := R) x K) PR := by
  unfold spec_DrawRenamed_v2.f
  refine Dm.bind (spec_l1New_v2_wp x hx) fun t1 h1 => Dm.bindE spec_l2Sig_ev (Dm.bind (spec_l1Below_v2_wp 4 _ h1) fun t3 h3 => ?_)
  obtain ⟨z, hz, hz1, hz4⟩ := below_z h3.1 (by decide) (by decide)
  rw [hz]
  refine Dm.bind (spec_l24DrawFor_v2_wp z ⟨hz1, hz4⟩ _ h3.2) fun t4 h4 => Dm.bind (spec_l1Once_v2_wp 6 _ h4.2.2.2) fun t5 h5 => Dm.ite (fun _ => Dm.bindE spec_l2Sig_ev ?_) (fun _ => ?_)
  · exact l24Draw_dm fin_PR _ h5 (fun t7 k R K => spec_DrawRenamed_v2.l0 K k ([] : List Int) 0 0 t7.1 t7.2.1 t7.2.2.1 t7.2.2.2.1 t7.2.2.2.2) (fun y s t c => drawRenamed0_dm y.1 s y.2.1 t _ c y.1.toNat [] (by simp) (fun v hv => nomatch hv))
  · exact drawRenamed0_dm t4.1 (by rw [h4.1]; exact sm_z hz4) t4.2.1 (row1_tb (Nat.le_of_eq h4.2.1) h4.2.2.1) _ h5 t4.1.toNat [] (by simp) (fun v hv => nomatch hv)
def PS (y : List I_Sym × Int × Int × List (List Int)) : Prop := y.1 = sig2 ∧ Sm y.2.1 ∧ Sm y.2.2.1 ∧ Tb y.2.2.2
theorem fin_PS : Fin_ PS := Fin_.prod (Fin_.one sig2) (Fin_.prod fin_Sm (Fin_.prod fin_Sm fin_Tb))
theorem drawSubJ_dm (z : Int) (hz : Sm z) (T : List (List Int)) (hT : Tb T) {b : List Int} {i : Int} (h : Int) (hc : Cur b i) : Dm (fun n R K => spec_DrawSubworld_v2.j0 (R := R) K n 0 z T b i h) PS := by
  refine Dm.step (fun k R K => by rw [spec_DrawSubworld_v2.j0]) ?_
  refine Dm.bindE spec_l2Sig_ev (Dm.bind (spec_l1Below_v2_wp 6 _ hc) fun t15 h15 => Dm.ret fin_PS ⟨rfl, ?_, hz, hT⟩)
  have := h15.1
  show Sm (wrap64 (t15.1 - 1))
  rw [wrap_id (by omega) (by omega)]
  exact ⟨by omega, by omega⟩
theorem drawSub_dm (z : Int) (hz : Sm z) {b : List Int} {i : Int} (h : Int) (hc : Cur b i) : ∀ (d f : Nat) (T : List (List Int)), Tb T → f + d = T.length → Dm (fun n R K => spec_DrawSubworld_v2.l0 (R := R) K n f 0 z T b i h) PS := by
  intro d
  induction d with
  | zero =>
    intro f T hT hf
    refine Dm.step (fun k R K => by rw [spec_DrawSubworld_v2.l0]) ?_
    exact Dm.itef (by omega) (drawSubJ_dm z hz T hT h hc)
  | succ d ih =>
    intro f T hT hf
    refine Dm.step (fun k R K => by rw [spec_DrawSubworld_v2.l0]) ?_
    refine Dm.itet (by omega) ?_
    have h7 := hT.1
    have key : ∀ (e j : Nat) (T : List (List Int)), Tb T → f + (d + 1) = T.length → j + e = (rd_Ls_i64 T (f : Int)).length → Dm (fun n R K => spec_DrawSubworld_v2.l1 (R := R) K n f j 0 z T b i h) PS := by
      intro e
      induction e with
      | zero =>
        intro j T hT hf hj
        have h7 := hT.1
        have w1 : wrap64 ((f : Int) + 1) = ((f + 1 : Nat) : Int) := wrS2 (m := f) (n := 1) (by omega)
        refine Dm.step (fun k R K => by rw [spec_DrawSubworld_v2.l1]) ?_
        rw [w1]
        exact Dm.itet (by omega) (Dm.itet (by omega) (Dm.itef (by omega) (ih (f + 1) T hT (by omega))))
      | succ e ihe =>
        intro j T hT hf hj
        have h7 := hT.1
        have hrl := (hT.2 _ (rdRow_mem (T := T) (i := (f : Int)) (by omega) (by omega))).1
        have w1 : wrap64 ((f : Int) + 1) = ((f + 1 : Nat) : Int) := wrS2 (m := f) (n := 1) (by omega)
        have sl : sig2.length = 7 := rfl
        have w2 : wrap64 (((sig2.length : Nat) : Int) - 1) = 6 := by rw [sl]; exact wrap_id (by decide) (by decide)
        refine Dm.step (fun k R K => by rw [spec_DrawSubworld_v2.l1]) ?_
        rw [w1]
        refine Dm.itet (by omega) (Dm.itet (by omega) (Dm.itet (by omega) (Dm.bindE spec_l2Sig_ev (Dm.bindE spec_l2Sig_ev ?_))))
        rw [w2]
        refine Dm.bind (spec_l1Min_wp _ _) fun t12 h12 => Dm.itet (by omega) (Dm.itet (by omega) (Dm.ite (fun _ => ih (f + 1) T hT (by omega)) (fun _ => Dm.itet (by omega) ?_)))
        have s0 : Sm 0 := ⟨by decide, by decide⟩
        refine Dm.rel (Y := TupT ST [.int .i64, .int .i64, .int .i64, .int .i64, .lst (.lst (.int .i64)), .lst (.int .u8), .int .i64, .int .i64]) (G := fun _ R K => relB _ K) (F := fun (y : TupT ST [.int .i64, .int .i64, .int .i64, .int .i64, .lst (.lst (.int .i64)), .lst (.int .u8), .int .i64, .int .i64]) n R K => spec_DrawSubworld_v2.l1 K n y.1 (wrap64 (y.2.1 + 1)) y.2.2.1 y.2.2.2.1 y.2.2.2.2.1 y.2.2.2.2.2.1 y.2.2.2.2.2.2.1 y.2.2.2.2.2.2.2) fin_PS (relB_dm ?_ ⟨_, CL.refl (allD_cells _ _)⟩) (fun y hy => ?_)
        · refine Fin_.mono (Fin_.prod (Fin_.one (f : Int)) (Fin_.prod (Fin_.one (j : Int)) (Fin_.prod (Fin_.one (0 : Int)) (Fin_.prod (Fin_.one z) (Fin_.prod fin_Tb (Fin_.prod (Fin_.one b) (Fin_.prod (Fin_.one i) (Fin_.one h)))))))) (fun y hy => ?_)
          obtain ⟨a, b', c, d', e', f', g, h'⟩ := ch8 hy
          exact ⟨a, b', c, d', (ch_tb s0 e' hT).1, f', g, h'⟩
        · obtain ⟨a, b', c, d', e', f', g, h'⟩ := ch8 hy
          obtain ⟨k1, k2, k3⟩ := ch_tb s0 e' hT
          have w3 : wrap64 ((j : Int) + 1) = ((j + 1 : Nat) : Int) := wrS2 (m := j) (n := 1) (by omega)
          have k4 := k3 f
          simp only at a b' c d' f' g h' k1 k2 k4
          rw [a, b', c, d', f', g, h', w3]
          exact ihe (j + 1) y.2.2.2.2.1 k1 (by omega) (by omega)
    exact key _ 0 T hT hf (Nat.zero_add _)
theorem drawSubworld_dm (x : List Int) (hx : x.length ≤ 1048576) : Dm (fun n R K => spec_DrawSubworld_v2.f n (R := R) x K) PS := by
  unfold spec_DrawSubworld_v2.f
  refine Dm.bind (spec_l1New_v2_wp x hx) fun t1 h1 => Dm.bindE spec_l2Sig_ev (Dm.bind (spec_l1Below_v2_wp 4 _ h1) fun t3 h3 => ?_)
  obtain ⟨z, hz, hz1, hz4⟩ := below_z h3.1 (by decide) (by decide)
  rw [hz]
  refine Dm.bind (spec_l24DrawFor_v2_wp z ⟨hz1, hz4⟩ _ h3.2) fun t4 h4 => Dm.bind (spec_l1Once_v2_wp 6 _ h4.2.2.2) fun t5 h5 => Dm.ite (fun _ => Dm.bindE spec_l2Sig_ev ?_) (fun _ => ?_)
  · refine l24Draw_dm fin_PS _ h5 (fun t7 k R K => (spec_l1Once_v2.f 2 t7.2.2.1 t7.2.2.2.1 t7.2.2.2.2).bind fun t8 => (if t8.1 = true then (spec_DrawSubworld_v2.l0 K k 0 0 t7.1 t7.2.1 t8.2.1 t8.2.2.1 t8.2.2.2) else (spec_DrawSubworld_v2.j0 K k 0 t7.1 t7.2.1 t8.2.1 t8.2.2.1 t8.2.2.2))) (fun y s t c => ?_)
    exact Dm.bind (spec_l1Once_v2_wp 2 _ c) fun t8 h8 => Dm.ite (fun _ => drawSub_dm y.1 s _ h8 _ 0 y.2.1 t (Nat.zero_add _)) (fun _ => drawSubJ_dm y.1 s _ t _ h8)
  · have s4 : Sm t4.1 := by rw [h4.1]; exact sm_z hz4
    have tb4 := row1_tb (Nat.le_of_eq h4.2.1) h4.2.2.1
    exact Dm.bind (spec_l1Once_v2_wp 2 _ h5) fun t8 h8 => Dm.ite (fun _ => drawSub_dm t4.1 s4 _ h8 _ 0 t4.2.1 tb4 (Nat.zero_add _)) (fun _ => drawSubJ_dm t4.1 s4 _ tb4 _ h8)
/-! #### both answers are the same -/
theorem sameInts_ev (l : List Int) (h : l.length ≤ 1000000000) : Ev (fun k => laws_sameInts.f k l l) true := by
  unfold laws_sameInts.f
  refine Wp.ev (Wp.itet rfl ?_)
  refine Wp.cnt0 l.length h (fun q i => laws_sameInts.l0 q l l i) (fun _ => True) ?_ ?_ trivial
  · intro i hi hw _ ih
    refine Wp.step (fun k => by rw [laws_sameInts.l0]) ?_
    simp only [hw.e]
    repeat' (first|(with_reducible refine Wp.itetB ?c_ ?_;(case c_=>first|exact Int.natCast_nonneg _|omega|assumption))|(with_reducible refine Wp.itefB ?c_ ?_;(case c_=>first|exact Int.natCast_nonneg _|omega|assumption))|(with_reducible refine Wp.itet ?c_ ?_;(case c_=>first|exact Int.natCast_nonneg _|omega|assumption))|(with_reducible refine Wp.itef ?c_ ?_;(case c_=>first|exact Int.natCast_nonneg _|omega|assumption))|(exact ih trivial)|(simp only [decide_eq_true_eq])|(with_reducible refine Wp.ret ?_)|(with_reducible refine Wp.itet ?c_ ?_;(case c_=>simp only [List.length_append, List.length_cons, List.length_nil, List.length_take, List.length_drop, List.length_replicate]; omega))|(with_reducible refine Wp.iteB (fun hc => ?_) (fun hc => ?_))|(with_reducible refine Wp.ite (fun hc => ?_) (fun hc => ?_)))
    all_goals first | exact ih trivial | contradiction
  · intro _
    refine Wp.step (fun k => by rw [laws_sameInts.l0]) ?_
    exact Wp.itef (by omega) (Wp.ret rfl)
theorem sameWorld_ev (z : Int) (T : List (List Int)) (h : T.length ≤ 1000000000) (hT : Rows T) : Ev (fun k => laws_sameWorld.f k z T z T) true := by
  unfold laws_sameWorld.f
  refine Wp.ev (Wp.itet rfl (Wp.itet rfl ?_))
  refine Wp.cnt0 T.length h (fun q i => laws_sameWorld.l0 q i z T z T) (fun _ => True) ?_ ?_ trivial
  · intro i hi hw _ ih
    refine Wp.step (fun k => by rw [laws_sameWorld.l0]) ?_
    have hr := hT _ (rdRow_mem (T := T) (i := (i : Int)) (by omega) (by omega))
    simp only [hw.e]
    repeat' (first|(with_reducible refine Wp.itetB ?c_ ?_;(case c_=>first|exact Int.natCast_nonneg _|omega|assumption))|(with_reducible refine Wp.itefB ?c_ ?_;(case c_=>first|exact Int.natCast_nonneg _|omega|assumption))|(with_reducible refine Wp.itet ?c_ ?_;(case c_=>first|exact Int.natCast_nonneg _|omega|assumption))|(with_reducible refine Wp.itef ?c_ ?_;(case c_=>first|exact Int.natCast_nonneg _|omega|assumption))|(with_reducible refine Wp.bindE (sameInts_ev _ hr) ?_)|(exact ih trivial)|(simp only [decide_eq_true_eq])|(with_reducible refine Wp.ret ?_)|(with_reducible refine Wp.itet ?c_ ?_;(case c_=>simp only [List.length_append, List.length_cons, List.length_nil, List.length_take, List.length_drop, List.length_replicate]; omega))|(with_reducible refine Wp.iteB (fun hc => ?_) (fun hc => ?_))|(with_reducible refine Wp.ite (fun hc => ?_) (fun hc => ?_)))
    all_goals first | exact ih trivial | contradiction
  · intro _
    refine Wp.step (fun k => by rw [laws_sameWorld.l0]) ?_
    exact Wp.itef (by omega) (Wp.ret rfl)
/-- an answer: a world, if there is one -/
def Ans (s : List I_Sym) (v : Int × List (List Int) × Bool) (n : Int) : Prop := (v.2.1.length ≤ 1000000000 ∧ Rows v.2.1) ∧ (v.2.2 = true → v.1 = n ∧ 0 ≤ v.1 ∧ WorldOk s v.1.toNat v.2.1)
theorem ans_none (s : List I_Sym) (n : Int) : Ans s (0, [], false) n := ⟨⟨by simp, fun x hx => nomatch hx⟩, fun h => nomatch h⟩
theorem ans_some {s : List I_Sym} (hs : Names s) {z : Nat} {val : Nat → Nat → Int} (h : WorldOk s z (tab s z val)) {n : Int} (hn : (z : Int) = n) : Ans s ((z : Int), tab s z val, true) n :=
  ⟨⟨by rw [tab_len]; exact hs.1, tab_rows h.1 h.2.1.2 _⟩, fun _ => ⟨hn, Int.natCast_nonneg _, by show WorldOk s (z : Int).toNat _; rw [Int.toNat_natCast]; exact h⟩⟩
theorem product_both (s : List I_Sym) (hs : Names s) (a b : Int) (Ta Tb : List (List Int)) (rA : Rows Ta) (rB : Rows Tb) : ∃ v, Ev (fun k => impl_Product.f k s a Ta b Tb) v ∧ Ev (fun k => spec_Product.f k s a Ta b Tb) v ∧ Ans s v (wrap64 (a * b)) := by
  have hno : ¬ ((0 ≤ a ∧ WorldOk s a.toNat Ta) ∧ (0 ≤ b ∧ WorldOk s b.toNat Tb)) → ∃ v, Ev (fun k => impl_Product.f k s a Ta b Tb) v ∧ Ev (fun k => spec_Product.f k s a Ta b Tb) v ∧ Ans s v (wrap64 (a * b)) := by
    intro h
    refine ⟨(0, [], false), ?_, ?_, ans_none ..⟩
    · unfold impl_Product.f
      simp only [rdW]
      exact Wp.ev (Wp.bindE (impl_WorldOk_ev s a Ta hs rA) (Wp.iteB (fun h1 => Wp.bindE (impl_WorldOk_ev s b Tb hs rB) (Wp.iteB (fun h2 => absurd ⟨h1, h2⟩ h) (fun _ => Wp.ret rfl))) (fun _ => Wp.ret rfl)))
    · unfold spec_Product.f
      exact Wp.ev (Wp.bindE (spec_WorldOk_ev s a Ta hs rA) (Wp.iteB (fun h1 => Wp.bindE (spec_WorldOk_ev s b Tb hs rB) (Wp.iteB (fun h2 => absurd ⟨h1, h2⟩ h) (fun _ => Wp.ret rfl))) (fun _ => Wp.ret rfl)))
  rcases Classical.em ((0 ≤ a ∧ WorldOk s a.toNat Ta) ∧ (0 ≤ b ∧ WorldOk s b.toNat Tb)) with h | h
  · obtain ⟨⟨a0, ha⟩, b0, hb⟩ := h
    obtain ⟨a, rfl⟩ := Int.eq_ofNat_of_zero_le a0
    obtain ⟨b, rfl⟩ := Int.eq_ofNat_of_zero_le b0
    rw [Int.toNat_natCast] at ha hb
    refine ⟨_, impl_Product_ok s hs rA rB ha hb, spec_Product_ok s hs rA rB ha hb, ?_⟩
    by_cases h4 : a * b ≤ 4
    · rw [if_pos h4]
      exact ans_some hs (prod_ok ha hb h4) (mul44 ha.2.1.2 hb.2.1.2).symm
    · rw [if_neg h4]; exact ans_none ..
  · exact hno h
theorem renamed_both (s : List I_Sym) (hs : Names s) (z : Int) (T : List (List Int)) (rA : Rows T) (by_ : List Int) (hb : by_.length ≤ 1000000000) : ∃ v, Ev (fun k => impl_Renamed.f k s z T by_) v ∧ Ev (fun k => spec_Renamed.f k s z T by_) v ∧ Ans s v z := by
  rcases Classical.em (0 ≤ z ∧ WorldOk s z.toNat T) with h | h
  · obtain ⟨z0, ha⟩ := h
    obtain ⟨z, rfl⟩ := Int.eq_ofNat_of_zero_le z0
    rw [Int.toNat_natCast] at ha
    refine ⟨_, impl_Renamed_ok s hs hb rA ha, spec_Renamed_ok s hs hb rA ha, ?_⟩
    rcases Classical.em (Perm1 by_ z) with hp | hp
    · rw [renRes, if_pos hp]
      exact ans_some hs (ren_ok ha hp) rfl
    · rw [renRes, if_neg hp]; exact ans_none ..
  · refine ⟨(0, [], false), ?_, ?_, ans_none ..⟩
    · unfold impl_Renamed.f
      simp only [rdW]
      exact Wp.ev (Wp.bindE (impl_WorldOk_ev s z T hs rA) (Wp.itefB h (Wp.ret rfl)))
    · unfold spec_Renamed.f
      exact Wp.ev (Wp.bindE (spec_WorldOk_ev s z T hs rA) (Wp.itefB h (Wp.ret rfl)))
theorem subworld_both (s : List I_Sym) (hs : Names s) (z : Int) (T : List (List Int)) (rA : Rows T) (n : Int) : ∃ v, Ev (fun k => impl_Subworld.f k s z T n) v ∧ Ev (fun k => spec_Subworld.f k s z T n) v ∧ Ans s v n := by
  rcases Classical.em ((0 ≤ z ∧ WorldOk s z.toNat T) ∧ 1 ≤ n ∧ n ≤ z) with h | h
  · obtain ⟨⟨z0, ha⟩, n1, nz⟩ := h
    obtain ⟨z, rfl⟩ := Int.eq_ofNat_of_zero_le z0
    obtain ⟨n, rfl⟩ := Int.eq_ofNat_of_zero_le (show 0 ≤ n by omega)
    rw [Int.toNat_natCast] at ha
    have hn : 1 ≤ n ∧ n ≤ z := ⟨by omega, by omega⟩
    refine ⟨_, impl_Subworld_ok s hs rA ha hn, spec_Subworld_ok s hs rA ha hn, ?_⟩
    rcases Classical.em (SubOk s n (subV n z T s)) with hp | hp
    · rw [subRes, if_pos hp]
      exact ans_some hs ((sub_ok ha hn).2 hp) rfl
    · rw [subRes, if_neg hp]; exact ans_none ..
  · refine ⟨(0, [], false), ?_, ?_, ans_none ..⟩
    · unfold impl_Subworld.f
      simp only [rdW]
      exact Wp.ev (Wp.bindE (impl_WorldOk_ev s z T hs rA) (Wp.iteB (fun h1 => Wp.bindE (impl_from_ev _ _ _) (Wp.itefB (fun h2 => h ⟨h1, h2⟩) (Wp.ret rfl))) (fun _ => Wp.ret rfl)))
    · unfold spec_Subworld.f
      exact Wp.ev (Wp.bindE (spec_WorldOk_ev s z T hs rA) (Wp.iteB (fun h1 => Wp.bindE (spec_l1In_ev _ _ _) (Wp.itefB (fun h2 => h ⟨h1, h2⟩) (Wp.ret rfl))) (fun _ => Wp.ret rfl)))
theorem ans_world {s : List I_Sym} (hs : Names s) {v : Int × List (List Int) × Bool} {n : Int} (h : Ans s v n) (c : v.2.2 = true) : Ev (fun k => impl_WorldOk.f k s v.1 v.2.1) true :=
  (impl_WorldOk_ev s v.1 v.2.1 hs h.1.2).val (B_iff.2 (h.2 c).2)
/-! #### the law -/
theorem laws_big_ev (b : List Int) : Ev (fun _ => laws_big.f b) (B ((b.length : Int) > 1048576)) := Ev.ret.val dec_B
theorem FnProducts (x : List Int) (w : (x.length ≤ maxLen ∧ ∀ y ∈ x, (Lit.int .u8 y).wf = true)) : ∃ k, laws_FnProducts.f k x = some true := by
  refine Wp.done ?_
  unfold laws_FnProducts.f
  refine Wp.bindE (laws_big_ev x) (Wp.iteB (fun _ => Wp.ret rfl) (fun hb => ?_))
  have hx : x.length ≤ 1048576 := by omega
  refine Wp.rel (drawProduct_dm x hx) fun y2 h2 => ?_
  obtain ⟨s, a, Ta, b, Tb'⟩ := y2
  obtain ⟨e, _, rA, _, rB⟩ := h2
  have e : s = sig2 := e
  subst e
  obtain ⟨v3, e3, e4, a3⟩ := product_both sig2 sig2_names a b Ta Tb' (Tb.rows rA) (Tb.rows rB)
  refine Wp.bindE e3 (Wp.bindE e4 ?_)
  refine Wp.rel (drawRenamed_dm x hx) fun y5 h5 => ?_
  obtain ⟨s, by_, z, T5⟩ := y5
  obtain ⟨e, ⟨hby, _⟩, _, r5⟩ := h5
  have e : s = sig2 := e
  subst e
  obtain ⟨v6, e6, e7, a6⟩ := renamed_both sig2 sig2_names z T5 (Tb.rows r5) by_ (Nat.le_trans hby (by decide))
  refine Wp.bindE e6 (Wp.bindE e7 ?_)
  refine Wp.rel (drawSubworld_dm x hx) fun y8 h8 => ?_
  obtain ⟨s, n, z8, T8⟩ := y8
  obtain ⟨e, _, _, r8⟩ := h8
  have e : s = sig2 := e
  subst e
  obtain ⟨v9, e9, e10, a9⟩ := subworld_both sig2 sig2_names z8 T8 (Tb.rows r8) n
  refine Wp.bindE e9 (Wp.bindE e10 ?_)
  refine Wp.itet rfl (Wp.bindE (sameWorld_ev _ _ a3.1.1 a3.1.2) (Wp.itet rfl (Wp.itet rfl (Wp.bindE (sameWorld_ev _ _ a6.1.1 a6.1.2) (Wp.itet rfl (Wp.itet rfl (Wp.bindE (sameWorld_ev _ _ a9.1.1 a9.1.2) (Wp.itet rfl ?_))))))))
  have S : ∀ c : v9.2.2 = true, decide (v9.1 = n) = true := fun c => decide_eq_true (a9.2 c).1
  refine Wp.ite (fun c3 => Wp.bindE (ans_world sig2_names a3 c3) (Wp.itet rfl (Wp.itet (a3.2 c3).1 (Wp.ite (fun c6 => Wp.bindE (ans_world sig2_names a6 c6) (Wp.itet rfl (Wp.ite (fun c9 => Wp.bindE (ans_world sig2_names a9 c9) (Wp.itet rfl (Wp.ret (S c9)))) (fun _ => Wp.ret rfl)))) (fun _ => Wp.ite (fun c9 => Wp.bindE (ans_world sig2_names a9 c9) (Wp.itet rfl (Wp.ret (S c9)))) (fun _ => Wp.ret rfl)))))) (fun _ => Wp.ite (fun c6 => Wp.bindE (ans_world sig2_names a6 c6) (Wp.itet rfl (Wp.ite (fun c9 => Wp.bindE (ans_world sig2_names a9 c9) (Wp.itet rfl (Wp.ret (S c9)))) (fun _ => Wp.ret rfl)))) (fun _ => Wp.ite (fun c9 => Wp.bindE (ans_world sig2_names a9 c9) (Wp.itet rfl (Wp.ret (S c9)))) (fun _ => Wp.ret rfl)))
end Go.Proofs.Ytejfjfhopapaaaa.Pure
