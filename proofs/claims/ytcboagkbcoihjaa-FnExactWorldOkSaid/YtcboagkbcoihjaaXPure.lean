/- Words for the pure statements: loops over lists that count, copy and compare, told by what they come to. -/
import Derived.RowKit
import Derived.Test.YtcboagkbcoihjaaWWords
namespace Go.Proofs.Ytcboagkbcoihjaa.XPure
open Go.RowKit Go.Proofs.YtcboagkbcoihjaaW.PrintWords

theorem wrap_id {x : Int} (h0 : -9223372036854775808 ≤ x) (h1 : x ≤ 9223372036854775807) : wrap64 x = x := by
  unfold wrap64
  omega
theorem wrap_nat {n : Nat} (h : n < maxLen) : wrap64 ((n : Int) + 1) = ((n + 1 : Nat) : Int) := by
  have : maxLen = 9223372036854775807 := rfl
  rw [wrap_id (by omega) (by omega)]
  rfl

theorem Ev.ite_pos {α : Type} {c : Prop} [Decidable c] {a b : Nat → Option α} {r : α} (hc : c) (h : Ev a r) : Ev (fun k => if c then a k else b k) r := by
  obtain ⟨K, h⟩ := h
  exact ⟨K, fun k hk => (if_pos hc).trans (h k hk)⟩
theorem Ev.ite_neg {α : Type} {c : Prop} [Decidable c] {a b : Nat → Option α} {r : α} (hc : ¬ c) (h : Ev b r) : Ev (fun k => if c then a k else b k) r := by
  obtain ⟨K, h⟩ := h
  exact ⟨K, fun k hk => (if_neg hc).trans (h k hk)⟩
theorem Ev.nxt {α : Type} {g : Nat → Option α} {r : α} (h : Ev (fun k => g (k + 1)) r) : Ev g r := Ev.step (fun _ => rfl) h
theorem Ev.some {α : Type} {r : α} : Ev (fun _ => Option.some r) r := ⟨0, fun _ _ => rfl⟩
theorem Ev.val {α : Type} {g : Nat → Option α} {r r' : α} (h : Ev g r) (e : r = r') : Ev g r' := e ▸ h
theorem Ev.cst {α : Type} {g : Option α} {r : α} (h : g = Option.some r) : Ev (fun _ => g) r := ⟨0, fun _ _ => h⟩
theorem Ev.eqn {α : Type} {g f : Nat → Option α} {r : α} (h : ∀ k, g k = f k) (k : Ev f r) : Ev g r := by
  obtain ⟨K, k⟩ := k
  exact ⟨K, fun n hn => (h n).trans (k n hn)⟩

theorem ite_bind {α β : Type} {c : Prop} [Decidable c] (a b : Option α) (f : α → Option β) : (if c then a else b).bind f = if c then a.bind f else b.bind f := by
  split <;> rfl

theorem getD_drop {α : Type} (l : List α) (z : α) (n : Nat) (h : n < l.length) : l.drop n = l.getD n z :: l.drop (n + 1) := by
  rw [List.drop_eq_getElem_cons h, List.getD_eq_getElem?_getD, List.getElem?_eq_getElem h]
  rfl
theorem getD_mem {α : Type} (l : List α) (z : α) (n : Nat) (h : n < l.length) : l.getD n z ∈ l := by
  rw [List.getD_eq_getElem?_getD, List.getElem?_eq_getElem h]
  exact List.getElem_mem h

theorem sum_zero {α : Type} (l : List α) (s : α → Nat) (h : ∀ x, s x = 0) : (l.map s).sum = 0 := by
  induction l with
  | nil => rfl
  | cons a l ih => rw [List.map_cons, List.sum_cons, h, ih]

/-- What is left of a purse of which n is taken; -1 where it is too little. -/
def szr (n : Nat) (left : Int) : Int := if (n : Int) ≤ left then left - n else -1
theorem szr_neg {n : Nat} {left : Int} : szr n left < 0 ↔ left < (n : Int) := by
  unfold szr
  split <;> omega
theorem szr_range {n : Nat} {left : Int} (h1 : left ≤ 1048576) : szr n left ≤ 1048576 := by
  unfold szr
  split <;> omega
theorem szr_add {m n : Nat} {left : Int} (h : (m : Int) ≤ left) : szr n (szr m left) = szr (m + n) left := by
  unfold szr
  rw [if_pos h]
  by_cases h2 : (n : Int) ≤ left - m
  · rw [if_pos h2, if_pos (by omega)]; omega
  · rw [if_neg h2, if_neg (by omega)]
theorem szr_over {m n : Nat} {left : Int} (h : left < (m : Int)) : szr (m + n) left = -1 := by
  unfold szr
  rw [if_neg (by omega)]

/-- a purse, then another: as the harness has it between two fields -/
theorem sz_then {g : Nat → Option Int} {f : Nat → Int → Option Int} {m n : Nat} {left : Int} (h1 : left ≤ 1048576) (hg : Ev g (szr m left))
    (hf : ∀ q, 0 ≤ q → q ≤ 1048576 → Ev (fun k => f k q) (szr n q)) :
    Ev (fun k => (g k).bind fun t => if t < 0 then Option.some (-1) else f k t) (szr (m + n) left) := by
  refine Ev.bind hg ?_
  by_cases h : left < (m : Int)
  · refine Ev.ite_pos (szr_neg.2 h) ?_
    rw [szr_over h]
    exact Ev.some
  · refine Ev.ite_neg (fun e => h (szr_neg.1 e)) ?_
    rw [← szr_add (by omega)]
    refine hf _ ?_ (szr_range h1)
    unfold szr
    rw [if_pos (by omega)]
    omega
theorem sz_last {q : Int} : Ev (fun _ => Option.some q) (szr 0 q) ∨ q < 0 := by
  by_cases h : 0 ≤ q
  · left
    unfold szr
    rw [if_pos (by simpa using h)]
    simpa using Ev.some
  · right; omega
theorem sz_end {q : Int} (h : 0 ≤ q) : Ev (fun _ => Option.some q) (szr 0 q) := by
  unfold szr
  rw [if_pos (by simpa using h)]
  simpa using Ev.some

theorem sz_loop {α : Type} (l : List α) (z : α) (hl : l.length ≤ maxLen) (L : Nat → Int → Int → Option Int) (g : Nat → α → Int → Option Int)
    (hL : ∀ k left i, L (k + 1) left i = if i < (l.length : Int) then (if 0 ≤ i then ((g k (l.getD i.toNat z) left).bind fun t => if t < 0 then Option.some (-1) else L k t (wrap64 (i + 1))) else none) else Option.some left)
    (s : α → Nat) (hg : ∀ x ∈ l, ∀ left, 0 ≤ left → left ≤ 1048576 → Ev (fun k => g k x left) (szr (s x) left)) :
    ∀ (d n : Nat) (left : Int), n + d = l.length → 0 ≤ left → left ≤ 1048576 → Ev (fun k => L k left (n : Int)) (szr ((l.drop n).map s).sum left) := by
  intro d
  induction d with
  | zero =>
    intro n left hn h0 h1
    refine Ev.step (fun k => hL k left n) (Ev.ite_neg (by omega) ?_)
    rw [List.drop_of_length_le (by omega)]
    exact sz_end h0
  | succ d ih =>
    intro n left hn h0 h1
    have hlt : n < l.length := by omega
    refine Ev.step (fun k => hL k left n) (Ev.ite_pos (by omega) (Ev.ite_pos (by omega) ?_))
    rw [getD_drop l z n hlt, List.map_cons, List.sum_cons, Int.toNat_natCast]
    refine sz_then h1 (hg _ (getD_mem l z n hlt) left h0 h1) fun q q0 q1 => ?_
    rw [wrap_nat (by omega)]
    exact ih (n + 1) q (by omega) q0 q1

/-- the head of a list's count: its length first -/
theorem sz_list {α : Type} (l : List α) (hl : l.length ≤ maxLen) (s : α → Nat) (L : Nat → Int → Option Int) (left : Int) (h0 : 0 ≤ left) (h1 : left ≤ 1048576)
    (hL : ∀ q, 0 ≤ q → q ≤ 1048576 → Ev (fun k => L k q) (szr (l.map s).sum q)) :
    Ev (fun k => if (wrap64 (left - (l.length : Int))) < 0 then Option.some (-1) else L k (wrap64 (left - (l.length : Int)))) (szr (l.length + (l.map s).sum) left) := by
  have hm : maxLen = 9223372036854775807 := rfl
  rw [wrap_id (by omega) (by omega)]
  by_cases h : left - (l.length : Int) < 0
  · refine Ev.ite_pos h ?_
    rw [szr_over (by omega)]
    exact Ev.some
  · refine Ev.ite_neg h ?_
    rw [← szr_add (by omega)]
    have e : szr l.length left = left - l.length := by unfold szr; rw [if_pos (by omega)]
    rw [e]
    exact hL _ (by omega) (by omega)

theorem to_loop {α β γ : Type} (l : List α) (z : α) (zb : β) (hl : l.length ≤ maxLen) (L : Nat → List β → Int → Option (List β)) (g : Nat → α → Option γ) (mk : γ → β)
    (hL : ∀ k acc i, L (k + 1) acc i = if i < (l.length : Int) then (if 0 ≤ i then ((g k (l.getD i.toNat z)).bind fun t => if i < (acc.length : Int) then L k (acc.set i.toNat (mk t)) (wrap64 (i + 1)) else none) else none) else Option.some acc)
    (e : α → γ) (hg : ∀ x ∈ l, Ev (fun k => g k x) (e x)) :
    ∀ (d n : Nat) (acc : List β), n + d = l.length → acc = (l.take n).map (fun x => mk (e x)) ++ List.replicate d zb → Ev (fun k => L k acc (n : Int)) (l.map fun x => mk (e x)) := by
  intro d
  induction d with
  | zero =>
    intro n acc hn ha
    refine Ev.step (fun k => hL k acc n) (Ev.ite_neg (by omega) ?_)
    rw [ha, List.take_of_length_le (by omega), List.replicate_zero, List.append_nil]
    exact Ev.some
  | succ d ih =>
    intro n acc hn ha
    have hlt : n < l.length := by omega
    have hal : acc.length = l.length := by rw [ha]; simp; omega
    refine Ev.step (fun k => hL k acc n) (Ev.ite_pos (by omega) (Ev.ite_pos (by omega) ?_))
    rw [Int.toNat_natCast]
    refine Ev.bind (hg _ (getD_mem l z n hlt)) (Ev.ite_pos (by omega) ?_)
    rw [wrap_nat (by omega)]
    refine ih (n + 1) _ (by omega) ?_
    have hm : ((l.take n).map (fun x => mk (e x))).length = n := by simp; omega
    rw [ha, List.set_append_right _ _ (by omega), hm, Nat.sub_self, List.replicate_succ, List.set_cons_zero, List.take_add_one, List.map_append, List.append_assoc]
    congr 1
    rw [List.getElem?_eq_getElem hlt, List.getD_eq_getElem?_getD, List.getElem?_eq_getElem hlt]
    rfl
theorem to_list {α β γ : Type} (l : List α) (z : α) (zb : β) (hl : l.length ≤ maxLen) (L : Nat → List β → Int → Option (List β)) (g : Nat → α → Option γ) (mk : γ → β)
    (hL : ∀ k acc i, L (k + 1) acc i = if i < (l.length : Int) then (if 0 ≤ i then ((g k (l.getD i.toNat z)).bind fun t => if i < (acc.length : Int) then L k (acc.set i.toNat (mk t)) (wrap64 (i + 1)) else none) else none) else Option.some acc)
    (e : α → γ) (hg : ∀ x ∈ l, Ev (fun k => g k x) (e x)) {B : Nat} (hB : l.length ≤ B) :
    Ev (fun k => if 0 ≤ (l.length : Int) then (if ((l.length : Int) : Int).toNat ≤ B then L k (List.replicate ((l.length : Int) : Int).toNat zb) 0 else none) else none) (l.map fun x => mk (e x)) := by
  refine Ev.ite_pos (by omega) (Ev.ite_pos (by omega) ?_)
  have := to_loop l z zb hl L g mk hL e hg l.length 0 (List.replicate l.length zb) (by omega) (by simp)
  simpa using this

theorem eq_loop {α : Type} (l : List α) (z : α) (hl : l.length ≤ maxLen) (L : Nat → Int → Option Bool) (g : Nat → α → Option Bool)
    (hL : ∀ k i, L (k + 1) i = if i < (l.length : Int) then (if 0 ≤ i then (if i < (l.length : Int) then ((g k (l.getD i.toNat z)).bind fun t => if t = true then L k (wrap64 (i + 1)) else Option.some false) else none) else none) else Option.some true)
    (hg : ∀ x ∈ l, Ev (fun k => g k x) true) : ∀ (d n : Nat), n + d = l.length → Ev (fun k => L k (n : Int)) true := by
  intro d
  induction d with
  | zero =>
    intro n hn
    exact Ev.step (fun k => hL k n) (Ev.ite_neg (by omega) Ev.some)
  | succ d ih =>
    intro n hn
    have hlt : n < l.length := by omega
    refine Ev.step (fun k => hL k n) (Ev.ite_pos (by omega) (Ev.ite_pos (by omega) (Ev.ite_pos (by omega) ?_)))
    rw [Int.toNat_natCast]
    refine Ev.bind (hg _ (getD_mem l z n hlt)) (Ev.ite_pos rfl ?_)
    rw [wrap_nat (by omega)]
    exact ih (n + 1) (by omega)
theorem eq_list {α : Type} (l : List α) (z : α) (hl : l.length ≤ maxLen) (L : Nat → Int → Option Bool) (g : Nat → α → Option Bool)
    (hL : ∀ k i, L (k + 1) i = if i < (l.length : Int) then (if 0 ≤ i then (if i < (l.length : Int) then ((g k (l.getD i.toNat z)).bind fun t => if t = true then L k (wrap64 (i + 1)) else Option.some false) else none) else none) else Option.some true)
    (hg : ∀ x ∈ l, Ev (fun k => g k x) true) : Ev (fun k => if (l.length : Int) = (l.length : Int) then L k 0 else Option.some false) true :=
  Ev.ite_pos rfl (eq_loop l z hl L g hL hg l.length 0 (by omega))

theorem mem_size {α : Type} (s : α → Nat) {l : List α} {y : α} (h : y ∈ l) : s y + 1 ≤ l.length + (l.map s).sum := by
  induction l with
  | nil => cases h
  | cons a l ih =>
    rw [List.length_cons, List.map_cons, List.sum_cons]
    rcases List.mem_cons.1 h with rfl | h
    · omega
    · have := ih h
      omega
theorem el_map {α β : Type} (c : α → β) (el : β → Nat) (s : α → Nat) (h : ∀ x, el (c x) ≤ s x) (l : List α) : (l.map c).length + ((l.map c).map el).sum ≤ l.length + (l.map s).sum := by
  rw [List.length_map]
  refine Nat.add_le_add_left ?_ _
  induction l with
  | nil => simp
  | cons a l ih =>
    rw [List.map_cons, List.map_cons, List.map_cons, List.sum_cons, List.sum_cons]
    have := h a
    omega
/-- a string's bytes, taken off the purse -/
theorem sz_str {s : ByteArray} {f : Nat → Int → Option Int} {n : Nat} {left : Int} (hs : s.size ≤ maxLen) (h0 : 0 ≤ left) (h1 : left ≤ 1048576)
    (hf : ∀ q, 0 ≤ q → q ≤ 1048576 → Ev (fun k => f k q) (szr n q)) :
    Ev (fun k => if (wrap64 (left - (s.size : Int))) < 0 then Option.some (-1) else f k (wrap64 (left - (s.size : Int)))) (szr (s.size + n) left) := by
  have hm : maxLen = 9223372036854775807 := rfl
  rw [wrap_id (by omega) (by omega)]
  by_cases h : left - (s.size : Int) < 0
  · refine Ev.ite_pos h ?_
    rw [szr_over (by omega)]
    exact Ev.some
  · refine Ev.ite_neg h ?_
    rw [← szr_add (by omega)]
    have e : szr s.size left = left - s.size := by unfold szr; rw [if_pos (by omega)]
    rw [e]
    exact hf _ (by omega) (by omega)
theorem sz_len {n : Nat} {left : Int} (hl : n ≤ maxLen) (h0 : 0 ≤ left) (h1 : left ≤ 1048576) :
    Ev (fun _ => if (wrap64 (left - (n : Int))) < 0 then Option.some (-1) else Option.some (wrap64 (left - (n : Int)))) (szr (n + 0) left) := by
  have hm : maxLen = 9223372036854775807 := rfl
  rw [wrap_id (by omega) (by omega)]
  by_cases h : left - (n : Int) < 0
  · have e : szr (n + 0) left = -1 := by unfold szr; rw [if_neg (by omega)]
    rw [e]
    exact Ev.ite_pos h Ev.some
  · have e : szr (n + 0) left = left - n := by unfold szr; rw [if_pos (by omega)]; omega
    rw [e]
    exact Ev.ite_neg h Ev.some
theorem to_ints (l : List Int) (hl : l.length ≤ maxLen) (L : Nat → List Int → Int → Option (List Int))
    (hL : ∀ k acc i, L (k + 1) acc i = if i < (l.length : Int) then (if 0 ≤ i then (if i < (acc.length : Int) then L k (acc.set i.toNat (l.getD i.toNat 0)) (wrap64 (i + 1)) else none) else none) else Option.some acc) {B : Nat} (hB : l.length ≤ B) :
    Ev (fun k => if 0 ≤ (l.length : Int) then (if ((l.length : Int) : Int).toNat ≤ B then L k (List.replicate ((l.length : Int) : Int).toNat 0) 0 else none) else none) l := by
  have := to_list l 0 0 hl L (fun _ x => Option.some x) (fun t => t) (fun k acc i => by rw [hL]; rfl) (fun x => x) (fun _ _ => Ev.some) hB
  simpa using this
theorem eq_ints (l : List Int) (hl : l.length ≤ maxLen) (L : Nat → Int → Option Bool)
    (hL : ∀ k i, L (k + 1) i = if i < (l.length : Int) then (if 0 ≤ i then (if i < (l.length : Int) then (if l.getD i.toNat 0 = l.getD i.toNat 0 then L k (wrap64 (i + 1)) else Option.some false) else none) else none) else Option.some true) :
    Ev (fun k => if (l.length : Int) = (l.length : Int) then L k 0 else Option.some false) true :=
  eq_list l 0 hl L (fun _ _ => Option.some true) (fun k i => by rw [hL]; simp) (fun _ _ => Ev.some)

/-- Induction over a loop that counts up to len. -/
theorem loop_ind {σ ρ : Type} (len : Nat) (L : Nat → σ → Int → Option ρ) (P : Nat → σ → Prop) (R : Nat → σ → ρ)
    (base : ∀ s, P len s → Ev (fun k => L (k + 1) s (len : Int)) (R len s))
    (step : ∀ n, n < len → ∀ s, P n s → (∀ s', P (n + 1) s' → Ev (fun k => L k s' ((n + 1 : Nat) : Int)) (R (n + 1) s')) → Ev (fun k => L (k + 1) s (n : Int)) (R n s)) :
    ∀ d n, n + d = len → ∀ s, P n s → Ev (fun k => L k s (n : Int)) (R n s) := by
  intro d
  induction d with
  | zero =>
    intro n hn s hp
    obtain rfl : n = len := by omega
    exact Ev.step (fun k => rfl) (base s hp)
  | succ d ih =>
    intro n hn s hp
    exact Ev.step (fun k => rfl) (step n (by omega) s hp (fun s' hs' => ih (n + 1) (by omega) s' hs'))
/-- A fold, by an index that is held against the length. -/
theorem fold_index {α σ ρ : Type} (l : List α) (z : α) (hl : l.length ≤ maxLen) (L : Nat → σ → Int → Option ρ) (stp : Nat → α → σ → Option σ) (fin : Nat → σ → Option ρ)
    (hL : ∀ k s i, L (k + 1) s i = if i < (l.length : Int) then (if 0 ≤ i then ((stp k (l.getD i.toNat z) s).bind fun t => L k t (wrap64 (i + 1))) else none) else fin k s)
    (f : σ → α → σ) (P : σ → Prop) (hs : ∀ x ∈ l, ∀ s, P s → Ev (fun k => stp k x s) (f s x) ∧ P (f s x)) (s0 : σ) (h0 : P s0) (r : ρ) (hf : P (l.foldl f s0) → Ev (fun k => fin k (l.foldl f s0)) r) : Ev (fun k => L k s0 0) r := by
  have key : ∀ d n, n + d = l.length → ∀ s, (P s ∧ (l.drop n).foldl f s = l.foldl f s0) → Ev (fun k => L k s (n : Int)) r := by
    refine loop_ind l.length L (fun n s => P s ∧ (l.drop n).foldl f s = l.foldl f s0) (fun _ _ => r) ?_ ?_
    · rintro s ⟨hp, he⟩
      refine Ev.eqn (fun k => hL k s _) (Ev.ite_neg (by omega) ?_)
      rw [List.drop_of_length_le (Nat.le_refl _)] at he
      have he' : s = l.foldl f s0 := he
      rw [he'] at hp ⊢
      exact hf hp
    · rintro n hn s ⟨hp, he⟩ ih
      refine Ev.eqn (fun k => hL k s _) (Ev.ite_pos (by omega) (Ev.ite_pos (by omega) ?_))
      rw [Int.toNat_natCast]
      obtain ⟨h1, h2⟩ := hs _ (getD_mem l z n hn) s hp
      refine Ev.bind h1 ?_
      rw [wrap_nat (by omega)]
      rw [getD_drop l z n hn, List.foldl_cons] at he
      exact ih _ ⟨h2, he⟩
  exact key l.length 0 (by omega) s0 ⟨h0, rfl⟩
/-- A fold, as 'range' goes: held against the length that was, and against the length. -/
theorem fold_range {α σ ρ : Type} (l : List α) (z : α) (hl : l.length ≤ maxLen) (L : Nat → σ → Int → Option ρ) (stp : Nat → α → σ → Option σ) (fin : Nat → σ → Option ρ)
    (hL : ∀ k s i, L (k + 1) s i = if i < (l.length : Int) then (if 0 ≤ i then (if i < (l.length : Int) then ((stp k (l.getD i.toNat z) s).bind fun t => L k t (wrap64 (i + 1))) else none) else none) else fin k s)
    (f : σ → α → σ) (P : σ → Prop) (hs : ∀ x ∈ l, ∀ s, P s → Ev (fun k => stp k x s) (f s x) ∧ P (f s x)) (s0 : σ) (h0 : P s0) (r : ρ) (hf : P (l.foldl f s0) → Ev (fun k => fin k (l.foldl f s0)) r) : Ev (fun k => L k s0 0) r :=
  fold_index l z hl L stp fin (fun k s i => by
    rw [hL]
    by_cases h : i < (l.length : Int)
    · simp only [if_pos h]
    · simp only [if_neg h]) f P hs s0 h0 r hf

/-- The harness: an argument that is too large is no matter. -/
theorem law_sz {g : Nat → Option Int} {f : Nat → Int → Option Bool} {n : Nat} {left : Int} (h0 : 0 ≤ left) (h1 : left ≤ 1048576) (hg : Ev g (szr n left))
    (hf : ∀ q, 0 ≤ q → q ≤ 1048576 → n ≤ 1048576 → Ev (fun k => f k q) true) : Ev (fun k => (g k).bind fun t => if t < 0 then Option.some true else f k t) true := by
  refine Ev.bind hg ?_
  by_cases h : left < (n : Int)
  · exact Ev.ite_pos (szr_neg.2 h) Ev.some
  · refine Ev.ite_neg (fun e => h (szr_neg.1 e)) (hf _ ?_ (szr_range h1) (by omega))
    unfold szr
    rw [if_pos (by omega)]
    omega

/-! marks: what a list of n elements is that was written over with numbers from v on, s to an element -/
def mkL {α : Type} (one : Int → α) (s : Nat) : Int → Nat → List α
  | _, 0 => []
  | v, n + 1 => one v :: mkL one s (v + s) n
theorem mkL_length {α : Type} (one : Int → α) (s : Nat) : ∀ (n : Nat) (v : Int), (mkL one s v n).length = n := by
  intro n
  induction n with
  | zero => intro v; rfl
  | succ n ih => intro v; rw [mkL, List.length_cons, ih]
theorem mkL_snoc {α : Type} (one : Int → α) (s : Nat) : ∀ (n : Nat) (v : Int), mkL one s v (n + 1) = mkL one s v n ++ [one (v + (s * n : Nat))] := by
  intro n
  induction n with
  | zero => intro v; simp [mkL]
  | succ n ih =>
    intro v
    rw [mkL, ih, mkL, List.cons_append]
    have e : v + (s : Int) + ((s * n : Nat) : Int) = v + ((s * (n + 1) : Nat) : Int) := by rw [Nat.mul_succ]; omega
    rw [e]
theorem mkL_getD {α : Type} (one : Int → α) (s : Nat) (z : α) : ∀ (n i : Nat) (v : Int), i < n → (mkL one s v n).getD i z = one (v + (s * i : Nat)) := by
  intro n
  induction n with
  | zero => intro i v h; omega
  | succ n ih =>
    intro i v h
    rw [mkL]
    cases i with
    | zero => simp
    | succ i =>
      rw [List.getD_cons_succ, ih i _ (by omega)]
      have e : v + (s : Int) + ((s * i : Nat) : Int) = v + ((s * (i + 1) : Nat) : Int) := by rw [Nat.mul_succ]; omega
      rw [e]
theorem set_take {α : Type} (l : List α) (n : Nat) (b : α) (h : n < l.length) : (l.set n b).take (n + 1) = l.take n ++ [b] := by
  rw [List.set_eq_take_append_cons_drop, if_pos h, List.take_append]
  have e : (l.take n).length = n := by simp; omega
  rw [e, List.take_of_length_le (by omega)]
  simp
theorem getD_set_self {α : Type} (l : List α) (z b : α) (n : Nat) (h : n < l.length) : (l.set n b).getD n z = b := by
  rw [List.getD_eq_getElem?_getD, List.getElem?_set_self h]
  rfl
theorem mk_ok {v : Int} {a b s : Nat} (hs : a + s ≤ b) (hv : v + (b : Int) ≤ 4611686018427387904) : v + (a : Int) + s ≤ 4611686018427387904 := by omega
theorem mk_ok0 {v : Int} {a : Nat} (h : 0 ≤ v) : 0 ≤ v + (a : Int) := by omega
theorem mark_loop {α : Type} (one : Int → α) (s : Nat) (L : Nat → List α → Int → Int → Option (Int × List α))
    (hI : ∀ (k : Nat) (acc : List α) (v : Int) (n : Nat), n < acc.length → acc.length ≤ maxLen → 0 ≤ v → v + s ≤ 4611686018427387904 → L (k + 1) acc v (n : Int) = L k (acc.set n (one v)) (v + s) ((n + 1 : Nat) : Int))
    (hE : ∀ (k : Nat) (acc : List α) (v : Int), L (k + 1) acc v (acc.length : Int) = Option.some (v, acc)) (l : List α) (hl : l.length ≤ maxLen) (v : Int) (h0 : 0 ≤ v) (hv : v + (s * l.length : Nat) ≤ 4611686018427387904) :
    Ev (fun k => L k l v 0) (v + (s * l.length : Nat), mkL one s v l.length) := by
  have key : ∀ d n : Nat, n + d = l.length → ∀ acc : List α, acc.length = l.length → acc.take n = mkL one s v n → Ev (fun k => L k acc (v + (s * n : Nat)) (n : Int)) (v + (s * l.length : Nat), mkL one s v l.length) := by
    intro d
    induction d with
    | zero =>
      intro n hn acc ha ht
      obtain rfl : n = l.length := by omega
      rw [← ha, List.take_of_length_le (Nat.le_refl _)] at ht
      refine Ev.step (f := fun _ => Option.some (v + (s * l.length : Nat), acc)) (fun k => by rw [← ha]; exact hE k acc _) ?_
      rw [ht, ha]
      exact Ev.some
    | succ d ih =>
      intro n hn acc ha ht
      have hs : s * n + s ≤ s * l.length := by rw [← Nat.mul_succ]; exact Nat.mul_le_mul_left _ (by omega)
      refine Ev.step (f := fun k => L k (acc.set n (one (v + (s * n : Nat)))) (v + (s * n : Nat) + s) ((n + 1 : Nat) : Int)) (fun k => hI k acc (v + ((s * n : Nat) : Int)) n (by omega) (by omega) (mk_ok0 h0) (mk_ok hs hv)) ?_
      have e : v + ((s * n : Nat) : Int) + (s : Int) = v + ((s * (n + 1) : Nat) : Int) := by rw [Nat.mul_succ]; omega
      rw [e]
      refine ih (n + 1) (by omega) _ (by rw [List.length_set]; exact ha) ?_
      rw [set_take _ _ _ (by omega), ht, mkL_snoc]
  have := key l.length 0 (by omega) l rfl (by simp [mkL])
  simpa using this
theorem held_loop {α : Type} (one : Int → α) (s : Nat) (z : α) (L : Nat → List α → Int → Int → Option Int)
    (hI : ∀ (k : Nat) (acc : List α) (v : Int) (n : Nat), n < acc.length → acc.length ≤ maxLen → 0 ≤ v → v + s ≤ 4611686018427387904 → acc.getD n z = one v → L (k + 1) acc v (n : Int) = L k acc (v + s) ((n + 1 : Nat) : Int))
    (hE : ∀ (k : Nat) (acc : List α) (v : Int), L (k + 1) acc v (acc.length : Int) = Option.some v) (m : Nat) (hl : m ≤ maxLen) (v : Int) (h0 : 0 ≤ v) (hv : v + (s * m : Nat) ≤ 4611686018427387904) :
    Ev (fun k => L k (mkL one s v m) v 0) (v + (s * m : Nat)) := by
  have hm := mkL_length one s m v
  have key : ∀ d n : Nat, n + d = m → Ev (fun k => L k (mkL one s v m) (v + (s * n : Nat)) (n : Int)) (v + (s * m : Nat)) := by
    intro d
    induction d with
    | zero =>
      intro n hn
      obtain rfl : n = m := by omega
      refine Ev.step (f := fun _ => Option.some (v + (s * n : Nat))) (fun k => ?_) Ev.some
      have := hE k (mkL one s v n) (v + (s * n : Nat))
      rw [hm] at this
      exact this
    | succ d ih =>
      intro n hn
      have hs : s * n + s ≤ s * m := by rw [← Nat.mul_succ]; exact Nat.mul_le_mul_left _ (by omega)
      refine Ev.step (f := fun k => L k (mkL one s v m) (v + (s * n : Nat) + s) ((n + 1 : Nat) : Int)) (fun k => hI k _ (v + ((s * n : Nat) : Int)) n (by rw [hm]; omega) (by rw [hm]; exact hl) (mk_ok0 h0) (mk_ok hs hv) (mkL_getD one s z m n v (by omega))) ?_
      have e : v + ((s * n : Nat) : Int) + (s : Int) = v + ((s * (n + 1) : Nat) : Int) := by rw [Nat.mul_succ]; omega
      rw [e]
      exact ih (n + 1) (by omega)
  have := key m 0 (by omega)
  simpa using this
end Go.Proofs.Ytcboagkbcoihjaa.XPure
