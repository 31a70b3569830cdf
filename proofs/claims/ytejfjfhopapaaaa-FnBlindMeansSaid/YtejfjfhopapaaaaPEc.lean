/- A small evaluator over the program's own code, and why it tells the truth (part 3). Written by this claim's session. -/
import Derived.Test.YtejfjfhopapaaaaPEb
set_option linter.unusedSimpArgs false
namespace Go.Proofs.Ytejfjfhopapaaaa.PE
noncomputable section
set_option linter.unusedVariables false
open Go Go.RowKit
variable {T : Tbl} {R : Type}
theorem invT_ok {m : List (Nat × Nat)} {d : Nat} : ∀ {l : List Nat} {j i : Nat}, invT m d l j = some i → i ∈ l ∧ tgt m d i = j := by
  intro l
  induction l with
  | nil => intro j i h; cases h
  | cons a l ih =>
    intro j i h
    unfold invT at h
    split at h
    · rename_i hb
      obtain rfl := Option.some.inj h
      exact ⟨List.mem_cons_self, (beq_true hb).symm⟩
    · exact ⟨List.mem_cons_of_mem _ (ih h).1, (ih h).2⟩
theorem invT_none {m : List (Nat × Nat)} {d : Nat} : ∀ {l : List Nat} {j : Nat}, invT m d l j = none → ∀ i ∈ l, tgt m d i ≠ j := by
  intro l
  induction l with
  | nil => intro j _ i h; cases h
  | cons a l ih =>
    intro j h i hi
    unfold invT at h
    split at h
    · cases h
    · rename_i hb
      rcases List.mem_cons.1 hi with rfl | hi
      · rintro rfl
        rw [show Nat.beq (tgt m d i) (tgt m d i) = true from Nat.beq_refl _] at hb; cases hb
      · exact ih h i hi
theorem nodup_inj {f : Nat → Nat} : ∀ {l : List Nat}, (l.map f).Nodup → ∀ a ∈ l, ∀ b ∈ l, f a = f b → a = b := by
  intro l
  induction l with
  | nil => intro _ a h; cases h
  | cons x l ih =>
    intro hn a ha b hb he
    rw [List.map_cons, List.nodup_cons] at hn
    rcases List.mem_cons.1 ha with rfl | ha <;> rcases List.mem_cons.1 hb with rfl | hb
    · rfl
    · exact (hn.1 (List.mem_map.2 ⟨b, by assumption, he.symm⟩)).elim
    · exact (hn.1 (List.mem_map.2 ⟨a, by assumption, he⟩)).elim
    · exact ih hn.2 a ha b hb he
theorem invT_of {m : List (Nat × Nat)} {d : Nat} {l : List Nat} (hn : (l.map (tgt m d)).Nodup) {i : Nat} (hi : i ∈ l) : invT m d l (tgt m d i) = some i := by
  cases h : invT m d l (tgt m d i) with
  | none => exact absurd rfl (invT_none h i hi)
  | some i' => obtain ⟨h1, h2⟩ := invT_ok h; rw [nodup_inj hn i' h1 i hi h2]
def outE (E1 E3 : Env T) (m : List (Nat × Nat)) (d : Nat) (bx nb rw : List Nat) : Env T :=
  ⟨E3.w, E3.S, fun j => match invT m d (bx ++ (nb ++ rw)) j with | some i => E3.η i | none => E1.η j, fun j => match invT m d (bx ++ (nb ++ rw)) j with | some i => (match (E3.H i).c with | .box _ => E1.κ j | _ => E3.κ i) | none => E1.κ j, outH E1.H m d bx nb rw E3.H⟩
theorem outSl_row (h : Nat → Slot T) (m : List (Nat × Nat)) (d : Nat) (bx nb rw : List Nat) (j i : Nat) (c : Cont T) (e : Ty) (xs : List (Den T.ST e)) : outSl h m d bx nb rw j i c (.row e xs) = ⟨gN h m d i, .row e xs⟩ := by cases c <;> rfl
structure OutOk (B : Base) (E1 E3 : Env T) (m : List (Nat × Nat)) (d : Nat) (bx nb rw : List Nat) : Prop where
  i1 : InvE B E1
  i3 : InvE (callB E1 m) E3
  g3 : ∀ i, (E3.H i).g = 1
  n1 : (m.map (·.1)).Nodup
  ge : ∀ i j, lookO m i = some j → HB ≤ i
  nd : ((bx ++ (nb ++ rw)).map (tgt m d)).Nodup
  rows : ∀ i ∈ rw, memN i nb = false ∧ ∃ (e : Ty) (xs : List (Den T.ST e)), (E3.H i).c = .row e xs ∧ (HR ≤ i → ∃ j xs0, lookO m i = some j ∧ (E1.H j).c = .row e xs0) ∧ (¬ HR ≤ i → tgt m d i < HR)
  news : ∀ i ∈ nb, tgt m d i < HB ∧ ∃ cs, (E3.H i).c = .box cs ∧ (outFL E1.H m d bx nb rw cs).all cellOk = true
  boxs : ∀ i ∈ bx, memN i nb = false ∧ ∃ j cs0 cs, lookO m i = some j ∧ (E1.H j).c = .box cs0 ∧ (E3.H i).c = .box cs ∧ (outFL E1.H m d bx nb rw cs).all cellOk = true
section
variable {B : Base} {E1 E3 : Env T} {m : List (Nat × Nat)} {d : Nat} {bx nb rw : List Nat} (O : OutOk B E1 E3 m d bx nb rw)
include O
theorem out_row {i : Nat} (hi : i ∈ rw) : ∃ (e : Ty) (xs : List (Den T.ST e)), (E3.H i).c = .row e xs ∧ (outE E1 E3 m d bx nb rw).H (tgt m d i) = ⟨gN E1.H m d i, .row e xs⟩ ∧ (outE E1 E3 m d bx nb rw).η (tgt m d i) = E3.η i ∧ (outE E1 E3 m d bx nb rw).κ (tgt m d i) = E3.κ i ∧
    ((E3.η i = E1.η (tgt m d i) ∧ E3.κ i = E1.κ (tgt m d i) ∧ (∃ xs0, (E1.H (tgt m d i)).c = .row e xs0 ∧ xs.length = xs0.length) ∧ gN E1.H m d i = (E1.H (tgt m d i)).g) ∨ (tgt m d i < HR ∧ gN E1.H m d i = (E1.H (tgt m d i)).g + 1)) := by
  obtain ⟨hnn, e, xs, h, hin, hout⟩ := O.rows i hi
  have hv := invT_of O.nd (List.mem_append_right _ (List.mem_append_right _ hi))
  refine ⟨e, xs, h, ?_, ?_, ?_, ?_⟩
  · show outH E1.H m d bx nb rw E3.H (tgt m d i) = _
    unfold outH
    rw [hv]
    show (match memN i nb with | true => outNew E1.H m d bx nb rw _ (E3.H i).c | false => outSl E1.H m d bx nb rw _ i _ (E3.H i).c) = _
    rw [hnn]
    show outSl E1.H m d bx nb rw _ i _ (E3.H i).c = _
    rw [h, outSl_row]
  · show (match invT m d (bx ++ (nb ++ rw)) (tgt m d i) with | some i => E3.η i | none => _) = _; rw [hv]
  · show (match invT m d (bx ++ (nb ++ rw)) (tgt m d i) with | some i => (match (E3.H i).c with | .box _ => E1.κ _ | _ => E3.κ i) | none => _) = _
    rw [hv]
    show (match (E3.H i).c with | .box _ => E1.κ _ | _ => E3.κ i) = _
    rw [h]
  · by_cases hR : HR ≤ i
    · obtain ⟨j, xs0, h1, h2⟩ := hin hR
      have ht : tgt m d i = j := by unfold tgt; rw [h1]
      obtain ⟨c1, c2, c3⟩ := callE_some (E := E1) h1
      have hc := (O.i3.cap i e xs h).2 hR
      have hl : xs.length = xs0.length := by
        refine hc.2.2.trans ?_
        show (match ((callE E1 m).H i).c with | .row _ xs => xs.length | _ => 0) = _
        rw [c3, h2]; rfl
      rw [ht]
      refine .inl ⟨hc.1.trans c1, hc.2.1.trans c2, ⟨xs0, h2, hl⟩, ?_⟩
      unfold gN
      rw [Nat.ble_eq_true_of_le hR, ht]
    · refine .inr ⟨hout hR, ?_⟩
      unfold gN
      rw [show Nat.ble HR i = false from by rw [Bool.eq_false_iff]; exact fun h => hR (Nat.le_of_ble_eq_true h)]
theorem out_box {i : Nat} (hi : i ∈ bx) : ∃ cs0 cs, lookO m i = some (tgt m d i) ∧ HB ≤ i ∧ (E1.H (tgt m d i)).c = .box cs0 ∧ (E3.H i).c = .box cs ∧ (outFL E1.H m d bx nb rw cs).all cellOk = true ∧ (outE E1 E3 m d bx nb rw).H (tgt m d i) = ⟨(E1.H (tgt m d i)).g, .box (outFL E1.H m d bx nb rw cs)⟩ ∧
    (outE E1 E3 m d bx nb rw).η (tgt m d i) = E3.η i ∧ (outE E1 E3 m d bx nb rw).κ (tgt m d i) = E1.κ (tgt m d i) ∧ E3.η i = E1.η (tgt m d i) := by
  obtain ⟨hnn, j, cs0, cs, h1, h2, h3, h4⟩ := O.boxs i hi
  have ht : tgt m d i = j := by unfold tgt; rw [h1]
  have hv := invT_of O.nd (List.mem_append_left _ hi)
  rw [ht] at hv ⊢
  refine ⟨cs0, cs, h1, O.ge i j h1, h2, h3, h4, ?_, ?_, ?_, ?_⟩
  · show outH E1.H m d bx nb rw E3.H j = _
    unfold outH
    rw [hv]
    show (match memN i nb with | true => outNew E1.H m d bx nb rw _ (E3.H i).c | false => outSl E1.H m d bx nb rw _ i (E1.H j).c (E3.H i).c) = _
    rw [hnn]
    show outSl E1.H m d bx nb rw _ i (E1.H j).c (E3.H i).c = _
    rw [h2, h3]
    rfl
  · show (match invT m d (bx ++ (nb ++ rw)) j with | some i => E3.η i | none => _) = _; rw [hv]
  · show (match invT m d (bx ++ (nb ++ rw)) j with | some i => (match (E3.H i).c with | .box _ => E1.κ _ | _ => E3.κ i) | none => _) = _
    rw [hv]
    show (match (E3.H i).c with | .box _ => E1.κ _ | _ => E3.κ i) = _
    rw [h3]
  · rw [O.i3.fxd i cs (O.ge i j h1) h3]
    exact (callE_some (E := E1) h1).1
theorem out_new {i : Nat} (hi : i ∈ nb) : ∃ cs, tgt m d i < HB ∧ (E3.H i).c = .box cs ∧ (outFL E1.H m d bx nb rw cs).all cellOk = true ∧ (outE E1 E3 m d bx nb rw).H (tgt m d i) = ⟨(E1.H (tgt m d i)).g + 1, .box (outFL E1.H m d bx nb rw cs)⟩ ∧ (outE E1 E3 m d bx nb rw).η (tgt m d i) = E3.η i := by
  obtain ⟨h0, cs, h, h1⟩ := O.news i hi
  have hv := invT_of O.nd (List.mem_append_right _ (List.mem_append_left _ hi))
  refine ⟨cs, h0, h, h1, ?_, ?_⟩
  · show outH E1.H m d bx nb rw E3.H (tgt m d i) = _
    unfold outH
    rw [hv]
    show (match memN i nb with | true => outNew E1.H m d bx nb rw _ (E3.H i).c | false => outSl E1.H m d bx nb rw _ i _ (E3.H i).c) = _
    rw [memN_of hi]
    show outNew E1.H m d bx nb rw _ (E3.H i).c = _
    rw [h]
    rfl
  · show (match invT m d (bx ++ (nb ++ rw)) (tgt m d i) with | some i => E3.η i | none => _) = _; rw [hv]
theorem out_else {j : Nat} (h : invT m d (bx ++ (nb ++ rw)) j = none) : ((outE E1 E3 m d bx nb rw).H j = E1.H j ∧ j ∉ m.map (·.2) ∨ (outE E1 E3 m d bx nb rw).H j = ⟨(E1.H j).g + 1, .none⟩) ∧ (outE E1 E3 m d bx nb rw).η j = E1.η j ∧ (outE E1 E3 m d bx nb rw).κ j = E1.κ j := by
  have _ := O
  refine ⟨?_, ?_, ?_⟩
  · show (outH E1.H m d bx nb rw E3.H j = _ ∧ _) ∨ outH E1.H m d bx nb rw E3.H j = _
    unfold outH
    rw [h]
    show ((match memN j (m.map (·.2)) with | true => _ | false => _) = _ ∧ _) ∨ (match memN j (m.map (·.2)) with | true => _ | false => _) = _
    cases hj : memN j (m.map (·.2)) with
    | true => exact .inr rfl
    | false => exact .inl ⟨rfl, fun hm => by rw [memN_of hm] at hj; cases hj⟩
  · show (match invT m d (bx ++ (nb ++ rw)) j with | some i => E3.η i | none => E1.η j) = _; rw [h]
  · show (match invT m d (bx ++ (nb ++ rw)) j with | some i => (match (E3.H i).c with | .box _ => E1.κ _ | _ => E3.κ i) | none => E1.κ j) = _; rw [h]
mutual
theorem out_rep : ∀ (v : FV T) (cv : Value), RepF E3 v cv → RepF (outE E1 E3 m d bx nb rw) (outF E1.H m d bx nb rw v) cv
  | .d x, cv, h => by rw [outF]; rw [RepF] at h ⊢; exact h
  | .lit b, cv, h => by rw [outF]; rw [RepF] at h ⊢; exact h
  | .prp p i, cv, h => by rw [outF]; rw [RepF] at h ⊢; exact h
  | .elp e xs i off, cv, h => by rw [outF]; rw [RepF] at h ⊢; exact h
  | .nil, cv, h => by rw [outF]; rw [RepF] at h ⊢; exact h
  | .non, cv, _ => by rw [outF, RepF]; trivial
  | .oel _ _ _ _, cv, _ => by rw [outF, RepF]; trivial
  | .agg cs, cv, h => by rw [outF]; rw [RepF] at h ⊢; obtain ⟨vs, h1, h2⟩ := h; exact ⟨vs, h1, out_repL cs vs h2⟩
  | .tup cs, cv, h => by rw [outF]; rw [RepF] at h ⊢; obtain ⟨vs, h1, h2⟩ := h; exact ⟨vs, h1, out_repL cs vs h2⟩
  | .clo f cs, cv, h => by rw [outF]; rw [RepF] at h ⊢; obtain ⟨vs, h1, h2⟩ := h; exact ⟨vs, h1, out_repL cs vs h2⟩
  | .own i g, cv, h => by
    rw [outF]
    cases hb : Nat.beq g 1 && memN i rw with
    | false => show RepF _ .non _; rw [RepF]; trivial
    | true =>
      rw [Bool.and_eq_true] at hb
      obtain rfl := beq_true hb.1
      obtain ⟨e, xs, h1, h2, h3, h4, _⟩ := out_row O (memN_ok hb.2)
      show RepF _ (.own (tgt m d i) (gN E1.H m d i)) cv
      rw [RepF] at h ⊢
      rw [h2, h3, h4]
      obtain ⟨e2, xs2, hc, A, hA⟩ := h.2 (O.g3 i).symm
      refine ⟨⟨Nat.le_refl _, h.1.2⟩, fun _ => ⟨e, xs, .inl rfl, A, ?_⟩⟩
      rw [h1] at hc
      rcases hc with hc | hc
      · obtain ⟨rfl, hx⟩ := Cont.row.inj hc
        obtain rfl := eq_of_heq hx
        exact hA
      · cases hc
  | .ptr i g off, cv, h => by
    rw [outF]
    cases hb : Nat.beq g 1 && memN i bx with
    | false =>
      cases hb2 : Nat.beq g 1 && memN i nb with
      | false => show RepF _ .non _; rw [RepF]; trivial
      | true =>
        rw [Bool.and_eq_true] at hb2
        obtain rfl := beq_true hb2.1
        obtain ⟨cs, _, h1, _, h2, h3⟩ := out_new O (memN_ok hb2.2)
        show RepF _ (.ptr (tgt m d i) ((E1.H (tgt m d i)).g + 1) off) cv
        rw [RepF] at h ⊢
        rw [h2, h3]
        obtain ⟨cs2, hc, hA⟩ := h.2 (O.g3 i).symm
        exact ⟨⟨Nat.le_refl _, h.1.2⟩, fun _ => ⟨_, rfl, hA⟩⟩
    | true =>
      rw [Bool.and_eq_true] at hb
      obtain rfl := beq_true hb.1
      obtain ⟨cs0, cs, _, _, _, h1, _, h2, h3, h4, _⟩ := out_box O (memN_ok hb.2)
      show RepF _ (.ptr (tgt m d i) (E1.H (tgt m d i)).g off) cv
      rw [RepF] at h ⊢
      rw [h2, h3]
      obtain ⟨cs2, hc, hA⟩ := h.2 (O.g3 i).symm
      exact ⟨⟨Nat.le_refl _, h.1.2⟩, fun _ => ⟨_, rfl, hA⟩⟩
theorem out_repL : ∀ (cs : List (FV T)) (vs : List Value), RepL E3 cs vs → RepL (outE E1 E3 m d bx nb rw) (outFL E1.H m d bx nb rw cs) vs
  | [], vs, h => by have _ := O; rw [outFL, RepL]; rw [RepL] at h; exact h
  | c :: cs, vs, h => by
    rw [outFL, RepL]
    rw [RepL] at h
    obtain ⟨v, r, h1, h2, h3⟩ := h
    exact ⟨v, r, h1, out_rep c v h2, out_repL cs r h3⟩
end
/-- A block that is not handed in is as it was. -/
theorem out_same {b : Nat} (hb : b < E1.w.heap.size) (hn : ∀ i j, lookO m i = some j → Has E1 j → E1.η j ≠ b) : E3.w.heap[b]? = E1.w.heap[b]? :=
  O.i3.blk b hb (fun ⟨i, j, h1, h2, h3⟩ => hn i j h1 h2 h3)
theorem out_le : EnvLe E1 (outE E1 E3 m d bx nb rw) := by
  refine ⟨O.i3.size, fun b hb => ⟨O.i3.s0 b hb, out_same O (O.i1.slt b hb) fun i j _ h2 h3 => (O.i1.own j h2).1 (h3 ▸ hb)⟩, fun j => ?_, fun j hg hc => ?_⟩
  · cases hv : invT m d (bx ++ (nb ++ rw)) j with
    | none =>
      rcases (out_else O hv).1 with ⟨h, _⟩ | h
      · rw [h]; exact Nat.le_refl _
      · rw [h]; exact Nat.le_succ _
    | some i =>
      obtain ⟨h1, rfl⟩ := invT_ok hv
      rcases List.mem_append.1 h1 with h1 | h1
      · obtain ⟨_, _, _, _, _, _, _, h, _⟩ := out_box O h1; rw [h]; exact Nat.le_refl _
      rcases List.mem_append.1 h1 with h1 | h1
      · obtain ⟨_, _, _, _, h, _⟩ := out_new O h1; rw [h]; exact Nat.le_succ _
      · obtain ⟨_, _, _, h, _, _, h5⟩ := out_row O h1
        rw [h]
        show (E1.H _).g ≤ gN E1.H m d i
        rcases h5 with ⟨_, _, _, h5⟩ | ⟨_, h5⟩ <;> rw [h5]
        · exact Nat.le_refl _
        · exact Nat.le_succ _
  · cases hv : invT m d (bx ++ (nb ++ rw)) j with
    | none =>
      obtain ⟨h, h2, h3⟩ := out_else O hv
      rcases h with ⟨h, _⟩ | h
      · rw [h, h2, h3]; exact ⟨((EnvLe.refl E1).same j rfl hc).1, rfl, rfl⟩
      · rw [h] at hg; exact absurd hg (by show ¬ (E1.H j).g = (E1.H j).g + 1; omega)
    | some i =>
      obtain ⟨h1, rfl⟩ := invT_ok hv
      rcases List.mem_append.1 h1 with h1 | h1
      · obtain ⟨cs0, cs, _, _, k1, k2, _, k3, k4, k5, k6⟩ := out_box O h1
        rw [k3, k4, k5, k6, k1]
        exact ⟨⟨_, rfl⟩, rfl, rfl⟩
      rcases List.mem_append.1 h1 with h1 | h1
      · obtain ⟨_, _, _, _, h, _⟩ := out_new O h1; rw [h] at hg; exact absurd hg (by show ¬ (E1.H _).g = (E1.H _).g + 1; omega)
      · obtain ⟨e, xs, _, h, k3, k4, h5⟩ := out_row O h1
        rcases h5 with ⟨a, b, ⟨xs0, c0, hl⟩, _⟩ | ⟨_, h5⟩
        · rw [h, k3, k4, a, b, c0]
          exact ⟨⟨xs, hl, .inl rfl⟩, rfl, rfl⟩
        · rw [h] at hg
          have hg' : (E1.H (tgt m d i)).g = gN E1.H m d i := hg
          omega
theorem out_has {j : Nat} (h : Has (outE E1 E3 m d bx nb rw) j) : (∃ i, i ∈ bx ++ (nb ++ rw) ∧ tgt m d i = j ∧ Has E3 i ∧ (outE E1 E3 m d bx nb rw).η j = E3.η i) ∨ (invT m d (bx ++ (nb ++ rw)) j = none ∧ Has E1 j ∧ j ∉ m.map (·.2) ∧ (outE E1 E3 m d bx nb rw).η j = E1.η j) := by
  cases hv : invT m d (bx ++ (nb ++ rw)) j with
  | none =>
    right
    obtain ⟨h1, h2, h3⟩ := out_else O hv
    rcases h1 with ⟨h1, h4⟩ | h1
    · refine ⟨rfl, ?_, h4, h2⟩
      exact has_same (E := E1) h h1 h3
    · exfalso
      unfold Has at h
      rw [h1] at h
      rcases h with ⟨cs, h⟩ | ⟨e, xs, h, _⟩ <;> cases h
  | some i =>
    left
    obtain ⟨h1, rfl⟩ := invT_ok hv
    rcases List.mem_append.1 h1 with h1' | h1'
    · obtain ⟨cs0, cs, _, _, k1, k2, _, k3, k4, _⟩ := out_box O h1'
      exact ⟨i, h1, rfl, .inl ⟨cs, k2⟩, k4⟩
    rcases List.mem_append.1 h1' with h1' | h1'
    · obtain ⟨cs, _, k2, _, _, k4⟩ := out_new O h1'
      exact ⟨i, h1, rfl, .inl ⟨cs, k2⟩, k4⟩
    · obtain ⟨e, xs, k1, k2, k3, k4, _⟩ := out_row O h1'
      refine ⟨i, h1, rfl, .inr ⟨e, xs, k1, ?_⟩, k3⟩
      unfold Has at h
      rw [k2, k4] at h
      rcases h with ⟨cs, h⟩ | ⟨_, _, _, h⟩
      · cases h
      · exact h
theorem out_inv : InvE B (outE E1 E3 m d bx nb rw) := by
  have hle := out_le O
  have third : ∀ b, b < E1.w.heap.size → (callB E1 m).M0 b → B.w0.heap.size ≤ b ∨ B.M0 b := by
    rintro b _ ⟨i, j, _, h2, rfl⟩
    exact (O.i1.own j h2).2.2
  have far : ∀ i, Has E3 i → ∀ j, Has E1 j → j ∉ m.map (·.2) → E3.η i ≠ E1.η j := by
    intro i hi j hj hnm he
    rcases (O.i3.own i hi).2.2 with h | ⟨i', j', h1, h2, h3⟩
    · have := (O.i1.own j hj).2.1
      have h' : E1.w.heap.size ≤ E3.η i := h
      omega
    · have := O.i1.inj j' j h2 hj (h3.trans he)
      subst this
      exact hnm (List.mem_map.2 ⟨(i', j'), lookO_mem h1, rfl⟩)
  have own3 : ∀ j, Has (outE E1 E3 m d bx nb rw) j → ¬ E3.S ((outE E1 E3 m d bx nb rw).η j) ∧ (outE E1 E3 m d bx nb rw).η j < E3.w.heap.size ∧ (B.w0.heap.size ≤ (outE E1 E3 m d bx nb rw).η j ∨ B.M0 ((outE E1 E3 m d bx nb rw).η j)) := by
    intro j h
    rcases out_has O h with ⟨i, _, _, h3, h4⟩ | ⟨_, h2, h3, h4⟩
    · rw [h4]
      have := O.i3.own i h3
      refine ⟨this.1, this.2.1, ?_⟩
      rcases this.2.2 with h | h
      · left; exact Nat.le_trans O.i1.size h
      · obtain ⟨i', j', k1, k2, k3⟩ := h
        exact third _ (by rw [← k3]; exact (O.i1.own j' k2).2.1) ⟨i', j', k1, k2, k3⟩
    · rw [h4]
      have := O.i1.own j h2
      refine ⟨fun hs => ?_, Nat.lt_of_lt_of_le this.2.1 O.i3.size, this.2.2⟩
      rcases O.i3.s1 _ hs this.2.1 with h | ⟨i', j', k1, k2, k3⟩
      · exact this.1 h
      · have := O.i1.inj j' j k2 h2 k3
        subst this
        exact h3 (List.mem_map.2 ⟨(i', j'), lookO_mem k1, rfl⟩)
  refine ⟨fun j => ?_, own3, fun j j' h h' he => ?_, fun j e xs h hk => (own3 j (.inr ⟨e, xs, h, hk⟩)).2.2, O.i3.slt, fun b hb => O.i3.s0 b (O.i1.s0 b hb), fun b hb hlt => ?_, O.i3.os.trans O.i1.os, O.i3.tape.trans O.i1.tape, O.i3.output.trans O.i1.output, Nat.le_trans O.i1.size O.i3.size, fun k hk hm => ?_, fun j cs hj hcs => ?_, fun j e xs h => ?_⟩
  · cases hv : invT m d (bx ++ (nb ++ rw)) j with
    | none =>
      obtain ⟨h1, h2, h3⟩ := out_else O hv
      rcases h1 with ⟨h1, h4⟩ | h1
      · refine slot_mono hle h1 h2 h3 (fun hh => ?_) (O.i1.slot j)
        refine out_same O (O.i1.own j hh).2.1 fun i' j' k1 k2 k3 => ?_
        have := O.i1.inj j' j k2 hh k3
        subst this
        exact h4 (List.mem_map.2 ⟨(i', j'), lookO_mem k1, rfl⟩)
      · unfold SlotOk; rw [h1]; trivial
    | some i =>
      obtain ⟨h1, rfl⟩ := invT_ok hv
      rcases List.mem_append.1 h1 with h1' | h1'
      · obtain ⟨cs0, cs, _, _, k1, k2, k0, k3, k4, _⟩ := out_box O h1'
        have hs := O.i3.slot i
        unfold SlotOk at hs ⊢
        rw [k2] at hs
        rw [k3, k4]
        obtain ⟨_, arr, t, s2, s3⟩ := hs
        exact ⟨fun c hc => List.all_eq_true.1 k0 c hc, arr, t, s2, out_repL O _ _ s3⟩
      rcases List.mem_append.1 h1' with h1' | h1'
      · obtain ⟨cs, _, k2, k0, k3, k4⟩ := out_new O h1'
        have hs := O.i3.slot i
        unfold SlotOk at hs ⊢
        rw [k2] at hs
        rw [k3, k4]
        obtain ⟨_, arr, t, s2, s3⟩ := hs
        exact ⟨fun c hc => List.all_eq_true.1 k0 c hc, arr, t, s2, out_repL O _ _ s3⟩
      · obtain ⟨e, xs, k1, k2, k3, k4, _⟩ := out_row O h1'
        have hs := O.i3.slot i
        unfold SlotOk at hs ⊢
        rw [k1] at hs
        rw [k2, k3, k4]
        exact hs
  · rcases out_has O h with ⟨i, h1, h2, h3, h4⟩ | ⟨_, h2, h3, h4⟩ <;> rcases out_has O h' with ⟨i', h1', h2', h3', h4'⟩ | ⟨_, h2', h3', h4'⟩
    · rw [h4, h4'] at he
      have := O.i3.inj i i' h3 h3' he
      rw [← h2, ← h2', this]
    · rw [h4, h4'] at he; exact absurd he (far i h3 j' h2' h3')
    · rw [h4, h4'] at he; exact absurd he.symm (far i' h3' j h2 h3)
    · rw [h4, h4'] at he; exact O.i1.inj j j' h2 h2' he
  · have hsz := O.i1.size
    rcases O.i3.s1 b hb (Nat.lt_of_lt_of_le hlt hsz) with h | h
    · exact O.i1.s1 b h hlt
    · rcases third b (Nat.lt_of_lt_of_le hlt hsz) h with h | h
      · omega
      · exact .inr h
  · refine (out_same O (Nat.lt_of_lt_of_le hk O.i1.size) fun i' j' k1 k2 k3 => ?_).trans (O.i1.blk k hk hm)
    rcases (O.i1.own j' k2).2.2 with h | h
    · rw [k3] at h; omega
    · rw [k3] at h; exact hm h
  · cases hv : invT m d (bx ++ (nb ++ rw)) j with
    | none =>
      obtain ⟨h1, h2, h3⟩ := out_else O hv
      rcases h1 with ⟨h1, _⟩ | h1
      · rw [h1] at hcs; rw [h2]; exact O.i1.fxd j cs hj hcs
      · rw [h1] at hcs; cases hcs
    | some i =>
      obtain ⟨h1, rfl⟩ := invT_ok hv
      rcases List.mem_append.1 h1 with h1' | h1'
      · obtain ⟨cs0, cs1, _, _, k1, k2, k0, k3, k4, _, k6⟩ := out_box O h1'
        rw [k4, k6]; exact O.i1.fxd _ cs0 hj k1
      rcases List.mem_append.1 h1' with h1' | h1'
      · obtain ⟨cs1, k0, _⟩ := out_new O h1'
        exact absurd hj (Nat.not_le.2 k0)
      · obtain ⟨e, xs, k1, k2, k3, k4, _⟩ := out_row O h1'
        rw [k2] at hcs; cases hcs
  · cases hv : invT m d (bx ++ (nb ++ rw)) j with
    | none =>
      obtain ⟨h1, h2, h3⟩ := out_else O hv
      rcases h1 with ⟨h1, _⟩ | h1
      · rw [h1] at h; rw [h2, h3]; exact O.i1.cap j e xs h
      · rw [h1] at h; cases h
    | some i =>
      obtain ⟨h1, rfl⟩ := invT_ok hv
      rcases List.mem_append.1 h1 with h1' | h1'
      · obtain ⟨cs0, cs1, _, _, k1, k2, k0, k3, k4, _, k6⟩ := out_box O h1'
        rw [k3] at h; cases h
      rcases List.mem_append.1 h1' with h1' | h1'
      · obtain ⟨cs1, _, _, _, k3, _⟩ := out_new O h1'
        rw [k3] at h; cases h
      · obtain ⟨e1, x1, k1, k2, k3, k4, k5⟩ := out_row O h1'
        rw [k2] at h
        obtain ⟨rfl, hx⟩ := Cont.row.inj h
        obtain rfl := eq_of_heq hx
        refine ⟨by rw [k4]; exact (O.i3.cap i _ _ k1).1, fun hj => ?_⟩
        rcases k5 with ⟨a, b, ⟨xs0, c0, hl⟩, _⟩ | ⟨hlt, _⟩
        · have hcp := (O.i1.cap _ _ xs0 c0).2 hj
          rw [k3, k4, a, b]
          exact ⟨hcp.1, hcp.2.1, hl.trans hcp.2.2⟩
        · exact absurd hj (Nat.not_le.2 hlt)
end
end
end Go.Proofs.Ytejfjfhopapaaaa.PE
namespace Go.Proofs.Ytejfjfhopapaaaa.PE
noncomputable section
set_option linter.unusedVariables false
open Go Go.RowKit
variable {T : Tbl} {R : Type}
theorem lcon_of {P : Program} (hT : TblOk P T) {e : Ent2 T} (he : Ent2Ok P T e) {args : List (FV T)} {h : Nat → Slot T} {d : Nat} {x : TupT T.ST e.pin.es} {y : TupT T.ST e.pout.es} {rv : FV T} (hin : in2 e args h = some x) (hF : e.F x = some y) (hrv : resO (canonC e.pout y) e.rts = some rv)
    (hok : okOut (h1Of (mapOf e args h) args h) (mapOf e args h) d (bxOf e (mapOf e args h)) (nbOf e (mapOf e args h)) (e.pout.rws.map (·.1)) (canonC e.pout y).h = true) :
    LCon P T e.n args h (outF (h1Of (mapOf e args h) args h) (mapOf e args h) d (bxOf e (mapOf e args h)) (nbOf e (mapOf e args h)) (e.pout.rws.map (·.1)) rv) (outH (h1Of (mapOf e args h) args h) (mapOf e args h) d (bxOf e (mapOf e args h)) (nbOf e (mapOf e args h)) (e.pout.rws.map (·.1)) (canonC e.pout y).h) := by
  intro B E cargs I hH hargs
  unfold in2 at hin
  generalize hm : mapOf e args h = m at hin hok ⊢
  split at hin
  · rename_i hb
    rw [Bool.and_eq_true] at hb
    have hlen := beq_true hb.1
    have hokin := hb.2
    unfold okIn at hokin
    rw [Bool.and_eq_true, Bool.and_eq_true, List.all_eq_true] at hokin
    have n1 := nodupN_ok hokin.1
    have n2 := nodupN_ok hokin.2.1
    have ge : ∀ i j, lookO m i = some j → HB ≤ i := fun i j hl => Nat.le_of_ble_eq_true (hokin.2.2 _ (lookO_mem hl))
    obtain ⟨E1, w1, H1, le1, I1, _⟩ := frzFs_ok (lvsL m (args ++ boxCells h m)) E I
    have H1' : E1.H = h1Of m args h := by rw [H1, hH]; rfl
    generalize h1Of m args h = h1 at hin hok H1' ⊢
    subst H1'
    have J := call_inv I1 n1 n2
    have hargs1 := RepL.mono le1 args cargs hargs
    have hcl : cargs.length = args.length := hargs.length
    have hrel : Rel (callB E1 m) (callE E1 m) (callS E1.H m args).f { tmps := cargs.toArray, defers := [] } cargs.toArray.size := by
      refine ⟨J, rfl, fun t => ?_, rfl⟩
      show RepF _ (match args[t]? with | some v => renF E1.H m v | none => .non) (cargs.toArray.getD t undef)
      cases ht : args[t]? with
      | none => show RepF _ .non _; rw [RepF]; trivial
      | some v =>
        obtain ⟨cv, h2, h3⟩ := hargs1.get t v ht
        have : cargs.toArray.getD t undef = cv := by
          rw [Array.getD_eq_getD_getElem?, List.getElem?_toArray, h2]; rfl
        rw [this]
        exact ren_rep I1 n1 v cv h3
    obtain ⟨E2, w2, r2, H2⟩ := cut_ok (P := P) hT hrel rfl hin
    have hcall := he.2 x y hF (callB E1 m) E2 cargs r2.inv H2 r2.frame (by rw [hcl]; exact hlen)
    rw [w2, show (callE E1 m).w = E.w from w1] at hcall
    refine hcall.mono fun en w' hR => ?_
    obtain ⟨rv', E3, v, hrv', rfl, rfl, I3, H3, hv⟩ := hR
    rw [hrv] at hrv'
    obtain rfl := Option.some.inj hrv'
    unfold okOut at hok
    rw [Bool.and_eq_true, Bool.and_eq_true, Bool.and_eq_true, List.all_eq_true, List.all_eq_true, List.all_eq_true] at hok
    have O : OutOk B E1 E3 m d (bxOf e m) (nbOf e m) (e.pout.rws.map (·.1)) := by
      refine ⟨I1, I3, fun i => by rw [H3]; unfold canonC; rfl, n1, ge, nodupN_ok hok.1, fun i hi => ?_, fun i hi => ?_, fun i hi => ?_⟩
      · have := hok.2.1 i hi
        rw [Bool.and_eq_true, Bool.and_eq_true, Bool.not_eq_true'] at this
        obtain ⟨this, hnn, hin⟩ := this
        refine ⟨hnn, ?_⟩
        rw [← H3] at this hin
        unfold isRow at this
        split at this
        · rename_i e' xs hc
          refine ⟨e', xs, hc, fun hi' => ?_, fun hi' => ?_⟩
          · unfold rowIn at hin
            rw [Nat.ble_eq_true_of_le hi'] at hin
            simp only at hin
            split at hin
            · rename_i j hj
              rw [hc] at hin
              unfold sameRow at hin
              split at hin
              · rename_i e1 x1 e2 x2 q1 q2
                obtain ⟨rfl, _⟩ := Cont.row.inj q2
                split at hin
                · rename_i hee _
                  subst hee
                  exact ⟨j, x1, hj, q1⟩
                · cases hin
              · cases hin
            · cases hin
          · unfold rowIn at hin
            rw [show Nat.ble HR i = false from by rw [Bool.eq_false_iff]; exact fun h => hi' (Nat.le_of_ble_eq_true h)] at hin
            exact Nat.le_of_ble_eq_true hin
        · cases this
      · have := hok.2.2.1 i hi
        rw [← H3, Bool.and_eq_true] at this
        obtain ⟨t0, t2⟩ := this
        refine ⟨Nat.le_of_ble_eq_true t0, ?_⟩
        split at t2
        · rename_i cs hc
          exact ⟨cs, hc, t2⟩
        · cases t2
      · have := hok.2.2.2 i hi
        rw [← H3] at this
        split at this
        · rename_i j hj
          rw [Bool.and_eq_true, Bool.and_eq_true, Bool.not_eq_true'] at this
          obtain ⟨hnn, t1, t2⟩ := this
          refine ⟨hnn, ?_⟩
          unfold isBox at t1
          split at t1
          · rename_i cs0 hc0
            split at t2
            · rename_i cs hc
              exact ⟨j, cs0, cs, hj, hc0, hc, t2⟩
            · cases t2
          · cases t1
        · cases this
    refine ⟨outE E1 E3 m d _ _ _, v, rfl, rfl, le1.trans (out_le O), out_inv O, out_rep O rv v hv, ?_⟩
    show outH E1.H m d _ _ _ E3.H = _
    rw [H3]
  · cases hin
theorem calL_ok {P : Program} (hT : TblOk P T) : ∀ {l : List (Ent2 T)}, (∀ e ∈ l, Ent2Ok P T e) → ∀ n d args h (K : FV T → (Nat → Slot T) → Option R) r, calL l n d args h K = some r → ∃ res h', Enters P n ∧ LCon P T n args h res h' ∧ K res h' = some r := by
  intro l
  induction l with
  | nil => intro _ n d args h K r hc; cases hc
  | cons e l ih =>
    intro he n d args h K r hc
    have next := ih (fun e' h' => he e' (List.mem_cons_of_mem _ h')) n d args h K r
    unfold calL at hc
    split at hc
    · rename_i hb
      obtain rfl := beq_true hb
      split at hc
      · rename_i x hx
        obtain ⟨y, h1, h2⟩ := Option.bind_eq_some_iff.1 hc
        unfold out2 at h2
        split at h2
        · rename_i rv hrv
          split at h2
          · rename_i hok
            have hE := he e List.mem_cons_self
            exact ⟨_, _, hE.1, lcon_of hT hE hx h1 hrv hok, h2⟩
          · cases h2
        · cases h2
      · exact next hc
    · exact next hc
structure EntsOk (P : Program) (T : Tbl) (e : Ents T) : Prop where
  q : EachU (EntOk P T) e.q
  l : EachU (Ent2Ok P T) e.l
theorem calOf_ok {P : Program} (hT : TblOk P T) {e : Ents T} (h : EntsOk P T e) : CalOk P T (calOf e : Cal T R) :=
  ⟨fun n args K r hc => calQ_ok hT (fun e he => h.q.all e he) n args K r hc, fun n d args hh K r hc => calL_ok hT (fun e he => h.l.all e he) n d args hh K r hc⟩
/-- A function's contract, as it is printed. -/
theorem fun_of {P : Program} (hT : TblOk P T) (hm : P.follows .mixedOrders = true) (n : FuncId) (fn : Func) {body : Code} (hfn : P.funcs[n]? = some fn) (hb : fn.body = some body) (hn : (fn.name == "runtime.NumGoroutine") = false) (ash : List Sh) (aes : List Ty) (rsh : Sh) (res : List Ty) (hlen : Nat.ble ash.length fn.ntmps = true)
    (ents : Nat → Ents T) (us : List (CutU T (TupT T.ST res))) (h0 : EachU (fun u => ∀ x, u.L 0 x = none) us) (hs : EachU (fun u => ∀ k x, runU T (calOf (ents k)) (jmps us k) (finK fn (retK T rsh res)) fn (some u.id) (canonC u.c x) = u.L (k + 1) x) us)
    (F : Nat → TupT T.ST aes → Option (TupT T.ST res)) (hr : ∀ k x, runU T (calOf (ents k)) (jmps us k) (finK fn (retK T rsh res)) fn none (canon (args0 0 (argL ash aes x)) []) = F k x) (hc : ∀ k, EntsOk P T (ents k)) (k : Nat) : EntOk P T ⟨n, ash, aes, rsh, res, F k⟩ :=
  fun_ent hT hm hfn hb (enters_of hfn hb hn) (Nat.le_of_ble_eq_true hlen) (fun u hu => h0.all u hu) (fun u hu => hs.all u hu) hr (fun k => calOf_ok hT (hc k)) k
/-- The contract of a member of a group, out of those of all of them at fewer rounds. -/
theorem fun_in {P : Program} (hT : TblOk P T) (hm : P.follows .mixedOrders = true) (n : FuncId) (fn : Func) {body : Code} (hfn : P.funcs[n]? = some fn) (hb : fn.body = some body) (hn : (fn.name == "runtime.NumGoroutine") = false) (ash : List Sh) (aes : List Ty) (rsh : Sh) (res : List Ty) (hlen : Nat.ble ash.length fn.ntmps = true)
    (ents : Nat → Ents T) (us : List (CutU T (TupT T.ST res))) (h0 : EachU (fun u => ∀ x, u.L 0 x = none) us) (hs : EachU (fun u => ∀ k x, runU T (calOf (ents k)) (jmps us k) (finK fn (retK T rsh res)) fn (some u.id) (canonC u.c x) = u.L (k + 1) x) us)
    (F : Nat → TupT T.ST aes → Option (TupT T.ST res)) (hz : ∀ x, F 0 x = none) (hr : ∀ k x, runU T (calOf (ents k)) (jmps us k) (finK fn (retK T rsh res)) fn none (canon (args0 0 (argL ash aes x)) []) = F (k + 1) x) (k : Nat) (hc : ∀ j, j < k → EntsOk P T (ents j)) : EntOk P T ⟨n, ash, aes, rsh, res, F k⟩ :=
  fun_rec hT hm hfn hb (enters_of hfn hb hn) (Nat.le_of_ble_eq_true hlen) (fun u hu => h0.all u hu) (fun u hu => hs.all u hu) hz hr k (fun j hj => calOf_ok hT (hc j hj))
/-- A function with slots handed in, as it is printed. -/
theorem fun_of2 {P : Program} (hT : TblOk P T) (hm : P.follows .mixedOrders = true) (n : FuncId) (fn : Func) {body : Code} (hfn : P.funcs[n]? = some fn) (hb : fn.body = some body) (hn : (fn.name == "runtime.NumGoroutine") = false) (na : Nat) (pin pout : Cut) (hna : Nat.ble na fn.ntmps = true)
    (ents : Nat → Ents T) (us : List (CutU T (TupT T.ST pout.es))) (h0 : EachU (fun u => ∀ x, u.L 0 x = none) us) (hs : EachU (fun u => ∀ k x, runU T (calOf (ents k)) (jmps us k) (finC pout fn.results.toList) fn (some u.id) (canonC u.c x) = u.L (k + 1) x) us)
    (F : Nat → TupT T.ST pin.es → Option (TupT T.ST pout.es)) (hr : ∀ k x, runU T (calOf (ents k)) (jmps us k) (finC pout fn.results.toList) fn none (canonC pin x) = F k x) (hc : ∀ k, EntsOk P T (ents k)) (k : Nat) : Ent2Ok P T ⟨n, na, pin, pout, fn.results.toList, F k⟩ :=
  fun_ent2 hT hm hfn hb (enters_of hfn hb hn) (Nat.le_of_ble_eq_true hna) (fun u hu => h0.all u hu) (fun u hu => hs.all u hu) hr (fun k => calOf_ok hT (hc k)) k
theorem fun_in2 {P : Program} (hT : TblOk P T) (hm : P.follows .mixedOrders = true) (n : FuncId) (fn : Func) {body : Code} (hfn : P.funcs[n]? = some fn) (hb : fn.body = some body) (hn : (fn.name == "runtime.NumGoroutine") = false) (na : Nat) (pin pout : Cut) (hna : Nat.ble na fn.ntmps = true)
    (ents : Nat → Ents T) (us : List (CutU T (TupT T.ST pout.es))) (h0 : EachU (fun u => ∀ x, u.L 0 x = none) us) (hs : EachU (fun u => ∀ k x, runU T (calOf (ents k)) (jmps us k) (finC pout fn.results.toList) fn (some u.id) (canonC u.c x) = u.L (k + 1) x) us)
    (F : Nat → TupT T.ST pin.es → Option (TupT T.ST pout.es)) (hz : ∀ x, F 0 x = none) (hr : ∀ k x, runU T (calOf (ents k)) (jmps us k) (finC pout fn.results.toList) fn none (canonC pin x) = F (k + 1) x) (k : Nat) (hc : ∀ j, j < k → EntsOk P T (ents j)) : Ent2Ok P T ⟨n, na, pin, pout, fn.results.toList, F k⟩ :=
  fun_rec2 hT hm hfn hb (enters_of hfn hb hn) (Nat.le_of_ble_eq_true hna) (fun u hu => h0.all u hu) (fun u hu => hs.all u hu) hz hr k (fun j hj => calOf_ok hT (hc j hj))
end
end Go.Proofs.Ytejfjfhopapaaaa.PE
namespace Go.Proofs.Ytejfjfhopapaaaa.PE
noncomputable section
set_option linter.unusedVariables false
open Go Go.RowKit
variable {T : Tbl} {R : Type}
/-- The test's two ways: behind it both come to the same. -/
theorem nil_ok {P : Program} (hT : TblOk P T) {cal : Cal T R} (hcal : CalOk P T cal) (hm : P.follows .mixedOrders = true) {B : Base} {n : FuncId} {fn : Func} {body : Code} {J : Jmp T R} {fin : St T → Option R} {Rp : R → Ending → World → Prop} (C : Ctx P T B n fn body J fin Rp)
    {m : Nat} {p : List Bool} {k : List Itm} {id : Nat} {o1 o2 : Oper} {x0 d1 d2 : Nat} {t t2 t' : TypeId} (hcode : codeAt body p = .region id #[o1, o2] false) (h1 : o1.op = .move (.tmp x0)) (h1d : o1.dst = some d1) (h1g : o1.guard = none) (h2 : o2.op = .binOp .eql t (.tmp d1) (.const (.slice none 0 0)) t2) (h2d : o2.dst = some d2) (h2g : o2.guard = none)
    (hd1 : d1 < fn.ntmps) (hd2 : d2 < fn.ntmps) (hu : P.underlying t = some (.slice t')) {s : St T} {e : Ty} {xs : List (Den T.ST e)} (hx : s.f x0 = .d (.lst e xs)) {r : R}
    (hN : xs = [] → arun T cal J fin fn.ntmps body m false k ⟨upd (upd s.f d1 (s.f x0)) d2 (.lit true), s.h⟩ = some r) (hF : arun T cal J fin fn.ntmps body m false k ⟨upd (upd s.f d1 (s.f x0)) d2 (.lit false), s.h⟩ = some r) :
    ∀ (E : Env T) a, Rel B E s.f a fn.ntmps → E.H = s.h → TWP P n ((Itm.code p :: k).map (Itm.item body)) a E.w (Rp r) := by
  intro E a hr hH
  show TWP P n (.code (codeAt body p) :: k.map (Itm.item body)) a E.w (Rp r)
  rw [hcode]
  refine TWP.region (wp_region ?_)
  have hx0 := hr.frame x0
  rw [hx, RepF] at hx0
  obtain ⟨A, c, hA, _, hne⟩ := rep_lst hx0
  have r1 : Rel B E (upd s.f d1 (s.f x0)) (a.put (some d1) (a.tmps.getD x0 undef)) fn.ntmps := hr.put (EnvLe.refl E) hr.inv (v := s.f x0) (hr.frame x0) (.inl ⟨d1, rfl, hd1, rfl⟩)
  have r2 : Rel B E (upd (upd s.f d1 (s.f x0)) d2 (.lit A.isNone)) ((a.put (some d1) (a.tmps.getD x0 undef)).put (some d2) (.bool A.isNone)) fn.ntmps := r1.put (EnvLe.refl E) hr.inv (v := .lit A.isNone) (by rw [RepF]) (.inl ⟨d2, rfl, hd2, rfl⟩)
  have hrange : List.range (#[o1, o2] : Array Oper).size = [0, 1] := rfl
  rw [hrange, wpOps_cons]
  unfold wpOp
  simp only [List.getElem?_toArray, List.getElem?_cons_zero]
  rw [if_pos (by simp [Region.wanted, h1g])]
  refine .inl (wp_value (w' := E.w) (cv := a.tmps.getD x0 undef) (by simp [execOp, h1, Act.eval]) ?_)
  rw [h1d, wpOps_cons]
  unfold wpOp
  simp only [List.getElem?_toArray, List.getElem?_cons_succ, List.getElem?_cons_zero]
  rw [if_pos (by simp [Region.wanted, h2g])]
  have hev : (a.put (some d1) (a.tmps.getD x0 undef)).eval (.tmp d1) = .slice A xs.length c := by
    show (a.put (some d1) (a.tmps.getD x0 undef)).tmps.getD d1 undef = _
    rw [put_getD a d1 d1 _ (by rw [hr.size]; exact hd1), if_pos rfl]
    exact hA
  refine .inl (wp_value (w' := E.w) (cv := .bool A.isNone) ?_ ?_)
  · have hc : (a.put (some d1) (a.tmps.getD x0 undef)).eval (.const (.slice none 0 0)) = .slice none 0 0 := rfl
    have hb : (Go.binOp .eql t (.slice A xs.length c) (.slice none 0 0)).run P E.w = .ok (.bool A.isNone) E.w := by
      show Sem.run P (do pure (Value.bool (← Op.equal t (.slice A xs.length c) (.slice none 0 0)))) E.w = _
      rw [Sem.run_bind, run_equal_slice_nil E.w t t' A xs.length c hu]
      rfl
    have hg : (eqGuard .eql t (.tmp d1) (.const (.slice none 0 0)) (.slice A xs.length c) (.slice none 0 0)).run P E.w = .ok () E.w := by
      simp [eqGuard]
    simp only [execOp, h2, hev, hc]
    simp [hg, hb]
  · rw [h2d]
    refine ⟨rfl, ?_⟩
    cases hAn : A.isNone with
    | true =>
      have hxe : xs = [] := by
        by_cases h : xs = []
        · exact h
        · obtain ⟨b, o, hb, _⟩ := hne h
          rw [hb] at hAn; cases hAn
      rw [hAn] at r2
      exact arun_ok hT hcal hm C _ _ _ _ _ (hN hxe) E _ r2 hH
    | false =>
      rw [hAn] at r2
      exact arun_ok hT hcal hm C _ _ _ _ _ hF E _ r2 hH
/-- A function with slots handed in that asks once whether a list is nil, at a cut point. -/
theorem fun_nil2 {P : Program} (hT : TblOk P T) (hm : P.follows .mixedOrders = true) (n : FuncId) (fn : Func) {body : Code} (hfn : P.funcs[n]? = some fn) (hb : fn.body = some body) (hn : (fn.name == "runtime.NumGoroutine") = false) (na : Nat) (pin pout : Cut) (hna : Nat.ble na fn.ntmps = true)
    (rid : Nat) (c : Cut) (G : TupT T.ST c.es → Option (TupT T.ST pout.es)) (p : List Bool) (k : List Itm) (hfind : find rid body [] [] = some (.code p :: k)) (o1 o2 : Oper) (x0 d1 d2 : Nat) (t t2 t' : TypeId) (hcode : codeAt body p = .region rid #[o1, o2] false) (h1 : o1.op = .move (.tmp x0)) (h1d : o1.dst = some d1) (h1g : o1.guard = none) (h2 : o2.op = .binOp .eql t (.tmp d1) (.const (.slice none 0 0)) t2) (h2d : o2.dst = some d2) (h2g : o2.guard = none)
    (hd1 : Nat.blt d1 fn.ntmps = true) (hd2 : Nat.blt d2 fn.ntmps = true) (hu : P.underlying t = some (.slice t')) (e : Ty) (X : TupT T.ST c.es → List (Den T.ST e)) (hx : ∀ x, (canonC (T := T) c x).f x0 = .d (.lst e (X x)))
    (hN : ∀ x y, X x = [] → G x = some y → arun T (calOf ⟨[], []⟩) (fun _ => none) (finC pout fn.results.toList) fn.ntmps body 100000 false k ⟨upd (upd (canonC c x).f d1 ((canonC c x).f x0)) d2 (.lit true), (canonC c x).h⟩ = some y)
    (hF : ∀ x y, G x = some y → arun T (calOf ⟨[], []⟩) (fun _ => none) (finC pout fn.results.toList) fn.ntmps body 100000 false k ⟨upd (upd (canonC c x).f d1 ((canonC c x).f x0)) d2 (.lit false), (canonC c x).h⟩ = some y)
    (F : TupT T.ST pin.es → Option (TupT T.ST pout.es)) (hr : ∀ x, runU T (calOf ⟨[], []⟩) (fun i => match Nat.beq rid i with | true => some (fun s => match cutR c s with | some x => G x | none => none) | false => none) (finC pout fn.results.toList) fn none (canonC pin x) = F x) : Ent2Ok P T ⟨n, na, pin, pout, fn.results.toList, F⟩ := by
  have hcal : CalOk P T (calOf ⟨[], []⟩ : Cal T (TupT T.ST pout.es)) := calOf_ok hT ⟨True.intro, True.intro⟩
  refine ⟨enters_of hfn hb hn, fun x y h B E cargs I hH hf hl => ?_⟩
  have hrun := (hr x).trans h
  refine calls_of_twp hfn hb ?_
  have hrel : Rel B E (canonC pin x).f { tmps := cargs.toArray ++ Array.replicate (fn.ntmps - cargs.toArray.size) undef, defers := [] } fn.ntmps :=
    ⟨I, by have hl : cargs.length = na := hl; simp; have := Nat.le_of_ble_eq_true hna; omega, fun t => by show RepF E _ ((cargs.toArray ++ Array.replicate _ undef).getD t undef); rw [getD_pad]; exact hf t, rfl⟩
  have C0 : Ctx P T B n fn body (fun _ => none) (finC pout fn.results.toList) (fun y => Post2 B pout fn.results.toList y) := ⟨hfn, hb, (fun _ _ h => by cases h), fun s r hs E a hr hH => fin2_ok hT hs E a hr hH⟩
  have C : Ctx P T B n fn body (fun i => match Nat.beq rid i with | true => some (fun s => match cutR c s with | some x => G x | none => none) | false => none) (finC pout fn.results.toList) (fun y => Post2 B pout fn.results.toList y) := by
    refine ⟨hfn, hb, fun i j hj s r hs kk hk E a hrel hH => ?_, fun s r hs E a hr hH => fin2_ok hT hs E a hr hH⟩
    split at hj
    · rename_i hbq
      obtain rfl := beq_true hbq
      obtain rfl := Option.some.inj hj
      simp only at hs
      split at hs
      · rename_i x' hx'
        rw [hfind] at hk
        obtain rfl := Option.some.inj hk
        obtain ⟨E', w', r', H'⟩ := cutR_ok (P := P) hT hrel hH hx'
        have := nil_ok hT hcal hm C0 (m := 100000) hcode h1 h1d h1g h2 h2d h2g (Nat.le_of_ble_eq_true hd1) (Nat.le_of_ble_eq_true hd2) hu (s := canonC c x') (hx x') (fun h0 => hN x' r h0 hs) (hF x' r hs) E' a r' H'
        rw [w'] at this
        exact this
      · cases hs
    · cases hj
  have hcode0 : codeAt body [] = body := by cases body <;> rfl
  have := unit_ok hT hcal hm C hrun [.code []] rfl E _ hrel hH
  rw [List.map_cons, List.map_nil, Itm.item, hcode0] at this
  exact this
end
end Go.Proofs.Ytejfjfhopapaaaa.PE
namespace Go.Proofs.Ytejfjfhopapaaaa.PE
noncomputable section
set_option linter.unusedVariables false
open Go Go.RowKit
variable {T : Tbl} {R : Type}
/-- A row's slot is filled anew: in its own block, or in a new one. -/
theorem own_put {B : Base} {E : Env T} (I : InvE B E) {id g : Nat} {e : Ty} {xs zs : List (Den T.ST e)} (hH' : E.H id = ⟨g, .row e xs⟩) (W : World) (b' κ' : Nat) (arr : Array Value) (tt : TypeId) (hsz : E.w.heap.size ≤ W.heap.size) (hW : ∀ k, k < E.w.heap.size → k ≠ b' → W.heap[k]? = E.w.heap[k]?)
    (hb : (b' = E.η id ∧ E.κ id ≠ 0) ∨ b' = E.w.heap.size) (hh : W.heap[b']? = some (.cells arr tt (0, 0))) (hs : arr.size = κ' * szE T e) (hl : zs.length ≤ κ') (hm : κ' ≤ maxLen ∧ id < HR) (he : Elems T W E.S e zs (fun k => arr[k]?)) (ho : W.os = E.w.os) (ht : W.tape = E.w.tape) (hu : W.output = E.w.output) :
    ∃ E', E'.w = W ∧ EnvLe E E' ∧ InvE B E' ∧ RepF E' (.own id (g + 1)) (.slice (some ⟨b', 0, none⟩) zs.length κ') ∧ E'.H = upd E.H id ⟨g + 1, .row e zs⟩ := by
  obtain ⟨hle0, I0⟩ := inv_drop I id (g + 1) (by rw [hH']; exact Nat.lt_succ_self _)
  have hd0 : (upd E.H id (⟨g + 1, .none⟩ : Slot T) id).c = .none := by rw [upd_same]
  have hg0 : (upd E.H id (⟨g + 1, .none⟩ : Slot T) id).g = g + 1 := by rw [upd_same]
  have hlt : b' < W.heap.size := (Array.getElem?_eq_some_iff.1 hh).1
  have hnS : ¬ E.S b' := by
    rcases hb with ⟨rfl, hκ⟩ | rfl
    · exact (I.own id (.inr ⟨e, xs, by rw [hH'], hκ⟩)).1
    · exact fun h => absurd (I.slt _ h) (Nat.lt_irrefl _)
  have hne : ∀ id', Has (⟨E.w, E.S, E.η, E.κ, upd E.H id ⟨g + 1, .none⟩⟩ : Env T) id' → E.η id' ≠ b' := by
    intro id' h' he'
    have hne : id' ≠ id := by
      rintro rfl
      unfold Has at h'
      rcases h' with ⟨cs, h'⟩ | ⟨_, _, h', _⟩
      · have h2 : (upd E.H id' (⟨g + 1, .none⟩ : Slot T) id').c = .box cs := h'
        rw [upd_same] at h2; cases h2
      · have h2 : (upd E.H id' (⟨g + 1, .none⟩ : Slot T) id').c = _ := h'
        rw [upd_same] at h2; cases h2
    have hh' := has_same (E := E) h' (upd_other _ _ hne) rfl
    rcases hb with ⟨rfl, hκ⟩ | rfl
    · exact hne (I.inj id' id hh' (.inr ⟨e, xs, by rw [hH'], hκ⟩) he')
    · have := (I.own id' hh').2.1; omega
  have hbb : B.w0.heap.size ≤ b' ∨ B.M0 b' := by
    rcases hb with ⟨rfl, hκ⟩ | rfl
    · exact (I.own id (.inr ⟨e, xs, by rw [hH'], hκ⟩)).2.2
    · exact .inl I.size
  obtain ⟨f1, f2⟩ := inv_fill (c := .row e zs) I0 b' κ' hd0 W hsz hW hnS hne hbb (fun _ h => by cases h) hm ho ht hu (fun _ => hlt) (fun hle => by
    unfold SlotOk
    show match (upd (upd E.H id (⟨g + 1, .none⟩ : Slot T)) id (⟨(upd E.H id (⟨g + 1, .none⟩ : Slot T) id).g, .row e zs⟩ : Slot T) id).c with | .none => _ | .box cs => _ | .row e xs => _ | .frz e xs => _
    rw [upd_same]
    show zs.length ≤ upd E.κ id κ' id ∧ (upd E.κ id κ' id ≠ 0 → ∃ arr t, W.heap[upd E.η id b' id]? = some (.cells arr t (0, 0)) ∧ arr.size = upd E.κ id κ' id * szE T e ∧ Elems T W E.S e zs (fun k => arr[k]?))
    rw [upd_same, upd_same]
    exact ⟨hl, fun _ => ⟨arr, tt, hh, hs, he⟩⟩)
  refine ⟨_, rfl, hle0.trans f1, f2, ?_, ?_⟩
  · rw [RepF]
    refine ⟨⟨?_, rfl⟩, fun _ => ⟨e, zs, .inl ?_, some ⟨b', 0, none⟩, ?_, ?_⟩⟩
    · show g + 1 ≤ (upd (upd E.H id (⟨g + 1, .none⟩ : Slot T)) id _ id).g
      rw [upd_same]; show g + 1 ≤ (upd E.H id (⟨g + 1, .none⟩ : Slot T) id).g; rw [hg0]; exact Nat.le_refl _
    · show (upd (upd E.H id (⟨g + 1, .none⟩ : Slot T)) id _ id).c = _; rw [upd_same]
    · show _ = Value.slice _ _ (upd E.κ id κ' id); rw [upd_same]
    · show upd E.κ id κ' id ≠ 0 → _ = some (⟨upd E.η id b' id, 0, none⟩ : Addr); rw [upd_same, upd_same]; exact fun _ => rfl
  · show upd (upd E.H id (⟨g + 1, .none⟩ : Slot T)) id _ = _
    funext j
    by_cases e' : j = id
    · subst e'; rw [upd_same, upd_same]; show (⟨(upd E.H j (⟨g + 1, .none⟩ : Slot T) j).g, _⟩ : Slot T) = _; rw [upd_same]
    · rw [upd_other _ _ e', upd_other _ _ e', upd_other _ _ e']
def intsV (xs : List Int) : List Value := xs.map (Value.int .i64)
theorem intsV_one (xs : List Int) : ∀ v ∈ intsV xs, v.oneCell' = true := by
  intro v hv
  obtain ⟨x, _, rfl⟩ := List.mem_map.1 hv
  rfl
theorem intsV_len (a : List Int) : (intsV a).length = a.length := List.length_map ..
theorem elems_ints {w : World} {S : Nat → Prop} {xs : List Int} {f : Nat → Option Value} (h : Elems T w S (.int .i64) xs f) : ∀ (j : Nat) v, (intsV xs)[j]? = some v → f j = some v := by
  intro j v hj
  unfold intsV at hj
  rw [List.getElem?_map] at hj
  obtain ⟨x, hx, rfl⟩ := Option.map_eq_some_iff.1 hj
  obtain ⟨cv, h1, h2⟩ := h j x hx 0 (.int .i64 x) rfl
  have h1 : f (j * 1 + 0) = some cv := h1
  rw [Nat.mul_one, Nat.add_zero] at h1
  rw [h1, rep_int.1 h2]
theorem ints_elems {w : World} {S : Nat → Prop} {xs : List Int} {f : Nat → Option Value} (h : ∀ (j : Nat) v, (intsV xs)[j]? = some v → f j = some v) : Elems T w S (.int .i64) xs f := by
  intro i x hx j y hy
  cases j with
  | succ j => exact absurd hy (by simp [cellsE])
  | zero =>
    have hy : some (Dyn.int (ST := T.ST) .i64 x) = some y := hy
    obtain rfl := Option.some.inj hy
    refine ⟨.int .i64 x, ?_, rep_int.2 rfl⟩
    show f (i * 1 + 0) = _
    rw [Nat.mul_one, Nat.add_zero]
    refine h i _ ?_
    unfold intsV
    rw [List.getElem?_map, hx]; rfl
theorem take_ints {arr : Array Value} {xs : List Int} (h : ∀ (j : Nat) v, (intsV xs)[j]? = some v → arr[j]? = some v) : arr.toList.take xs.length = intsV xs := by
  apply List.ext_getElem?
  intro j
  rcases Nat.lt_or_ge j xs.length with hj | hj
  · rw [List.getElem?_take_of_lt hj, Array.getElem?_toList]
    have hj' : j < (intsV xs).length := by rw [intsV_len]; exact hj
    rw [List.getElem?_eq_getElem hj', h j _ (List.getElem?_eq_getElem hj')]
  · rw [List.getElem?_take_eq_none hj, List.getElem?_eq_none (by rw [intsV_len]; exact hj)]
theorem ints_take {arr : Array Value} {xs : List Int} (h : arr.toList.take xs.length = intsV xs) : ∀ (j : Nat) v, (intsV xs)[j]? = some v → arr[j]? = some v := by
  intro j v hj
  rw [← h, List.getElem?_take] at hj
  split at hj
  · rw [← Array.getElem?_toList]; exact hj
  · cases hj
theorem cells_same (g : Nat) : ∀ (vs : List Value) (o : Nat) (w : World), (w.setCells g o vs).os = w.os ∧ (w.setCells g o vs).tape = w.tape ∧ (w.setCells g o vs).output = w.output ∧ (w.setCells g o vs).heap.size = w.heap.size ∧ ∀ k, k ≠ g → (w.setCells g o vs).heap[k]? = w.heap[k]?
  | [], _, _ => ⟨rfl, rfl, rfl, rfl, fun _ _ => rfl⟩
  | v :: r, o, w => by
    obtain ⟨h1, h2, h3, h4, h5⟩ := cells_same g r (o + 1) (w.setCell ⟨g, o, none⟩ v)
    rw [World.setCells]
    exact ⟨h1, h2, h3, by rw [h4]; simp [World.setCell], fun k hk => (h5 k hk).trans (Below.heap_setCell w ⟨g, o, none⟩ v k hk)⟩
theorem cells_row {g : Nat} {e : TypeId} : ∀ (vs : List Value) (o : Nat) (w : World) (cur : Array Value), w.heap[g]? = some (.cells cur e (0, 0)) → o + vs.length ≤ cur.size →
    ∃ cur', (w.setCells g o vs).heap[g]? = some (.cells cur' e (0, 0)) ∧ cur'.size = cur.size ∧ cur'.toList = cur.toList.take o ++ vs ++ cur.toList.drop (o + vs.length)
  | [], o, w, cur, h, _ => ⟨cur, h, rfl, by simp⟩
  | v :: r, o, w, cur, h, hl => by
    have h2 : (w.setCell ⟨g, o, none⟩ v).heap[g]? = some (.cells (cur.setIfInBounds o v) e (0, 0)) := by simp [World.setCell, Array.getElem?_modify, h]
    simp only [List.length_cons] at hl
    obtain ⟨cur', h3, h4, h5⟩ := cells_row r (o + 1) (w.setCell ⟨g, o, none⟩ v) _ h2 (by simp; omega)
    refine ⟨cur', h3, by rw [h4]; simp, ?_⟩
    rw [h5, Array.toList_setIfInBounds]
    have ho : o < cur.toList.length := by rw [Array.length_toList]; omega
    rw [List.take_set, List.drop_set_of_lt (by omega)]
    simp only [List.length_cons]
    rw [show o + 1 + r.length = o + (r.length + 1) by omega]
    congr 1
    rw [List.take_succ_eq_append_getElem ho, List.set_append_right _ _ (by rw [List.length_take]; omega)]
    have ho' : o < cur.size := by omega
    simp [Nat.min_eq_left (Nat.le_of_lt ho')]
theorem splice_a (A cs vs rest : List Value) (n i : Nat) (hA : A.take i = cs.take i) (hi : i ≤ n) (hc : cs.length = n) (hv : vs.length = 1) (hr : A.length ≥ i) : ((A.take i ++ vs ++ cs.drop i ++ rest).take (n + 1)) = cs.take i ++ (vs ++ cs.drop i) := by
  have e : (A.take i ++ vs ++ cs.drop i).length = n + 1 := by simp; omega
  rw [List.take_append_of_le_length (by omega), List.take_of_length_le (by omega), hA, List.append_assoc]
theorem splice_b (A cs vs rest : List Value) (N n : Nat) (hl : (A.take (n + 1)).length = n + 1) (hA : A.take n = cs.take n) (hi : n ≤ N) (hc : cs.length = N) (hv : vs.length = 1) : ((A.take (n + 1) ++ cs.drop n ++ rest).take n ++ vs ++ (A.take (n + 1) ++ cs.drop n ++ rest).drop (n + 1)).take (N + 1) = cs.take n ++ (vs ++ cs.drop n) := by
  have e1 : (A.take (n + 1) ++ cs.drop n ++ rest).take n = A.take n := by rw [List.append_assoc, List.take_append_of_le_length (by omega), List.take_take, Nat.min_eq_left (by omega)]
  have e2 : (A.take (n + 1) ++ cs.drop n ++ rest).drop (n + 1) = cs.drop n ++ rest := by rw [List.append_assoc, List.drop_append_of_le_length (by omega), List.drop_of_length_le (by omega), List.nil_append]
  rw [e1, e2, ← List.append_assoc]
  exact splice_a _ _ _ _ _ _ hA hi hc hv (by rw [List.length_take] at hl; omega)
theorem heap_new (w : World) (o : Obj) : (w.alloc o).heap[w.heap.size]? = some o := by
  show (w.heap.push o)[w.heap.size]? = _
  exact Array.getElem?_push_size
theorem heap_old (w : World) (o : Obj) (k : Nat) (h : k < w.heap.size) : (w.alloc o).heap[k]? = w.heap[k]? := by
  show (w.heap.push o)[k]? = _
  rw [Array.getElem?_push, if_neg (by omega)]
set_option maxHeartbeats 1000000 in
/-- One number into an own row, at a place in it. -/
theorem ins_core {P : Program} {ρ : Go.Shelf.Ren} (L : Go.Proofs.Lays2.n21 P ρ) {B : Base} {E : Env T} (I : InvE B E) {id id2 g : Nat} {xs : List Int} {y : Int} (hdr : id < HR) (hne : id ≠ id2) (hH : E.H id = ⟨g, .row (.int .i64) xs⟩) {g2 : Nat} (hH2 : E.H id2 = ⟨g2, .row (.int .i64) [y]⟩) {v0 v2 : Value} (h0 : RepF E (.own id g) v0) (h2 : RepF E (.own id2 g2) v2)
    (n : Nat) (hn : n ≤ xs.length) (hlen : xs.length < 17592186044415) : Calls P (ρ.f 21) #[v0, .int .i64 (n : Int), v2] E.w (fun e w' => ∃ E' v, e = .returned v ∧ E'.w = w' ∧ InvE B E' ∧ RepF E' (.own id (g + 1)) v ∧ E'.H = upd E.H id ⟨g + 1, .row (.int .i64) (xs.take n ++ ([y] ++ xs.drop n))⟩) := by
  have hm : maxLen = 9223372036854775807 := rfl
  obtain ⟨A0, hA0, hA0'⟩ := own_hdr h0 (by rw [hH]) (.inl (by rw [hH]))
  obtain ⟨A2, hA2, hA2'⟩ := own_hdr h2 (by rw [hH2]) (.inl (by rw [hH2]))
  subst hA0
  subst hA2
  have sl0 := I.slot id
  have sl2 := I.slot id2
  unfold SlotOk at sl0 sl2
  rw [hH] at sl0
  rw [hH2] at sl2
  have hκ2 : E.κ id2 ≠ 0 := by have := sl2.1; simp at this; omega
  obtain ⟨vcur, vt, hvh, hvs, hve⟩ := sl2.2 hκ2
  have hvs : vcur.size = E.κ id2 * 1 := hvs
  have hA2e := hA2' hκ2
  have has2 : Has E id2 := .inr ⟨_, _, by rw [hH2], hκ2⟩
  have hvc := elems_ints hve
  generalize hvb : E.η id2 = vb at hvh hA2e has2
  generalize hvk : E.κ id2 = vc at hvs
  subst hA2e
  have hvcells : ∀ j v, (intsV [y])[j]? = some v → E.w.cell? ⟨vb, 0 + j, none⟩ = some v := by
    intro j v hj
    rw [cell_of_row E.w vb _ _ _ _ hvh, Nat.zero_add]
    exact hvc j v hj
  have hv1 : (intsV [y]).length = 1 := rfl
  have hcapm : E.κ id ≤ maxLen := (I.cap id (.int .i64) xs (by rw [hH])).1
  have hL : (xs.take n ++ ([y] ++ xs.drop n)).length = xs.length + 1 := by simp; omega
  have hI : intsV (xs.take n ++ ([y] ++ xs.drop n)) = (intsV xs).take n ++ (intsV [y] ++ (intsV xs).drop n) := by unfold intsV; rw [List.map_append, List.map_append, List.map_take, List.map_drop]
  have done : ∀ (W : World) (b' κ' : Nat) (arr : Array Value) (tt : TypeId), E.w.heap.size ≤ W.heap.size → (∀ k, k < E.w.heap.size → k ≠ b' → W.heap[k]? = E.w.heap[k]?) → ((b' = E.η id ∧ E.κ id ≠ 0) ∨ b' = E.w.heap.size) → W.heap[b']? = some (.cells arr tt (0, 0)) → arr.size = κ' → xs.length + 1 ≤ κ' → κ' ≤ maxLen →
      arr.toList.take (xs.length + 1) = (intsV xs).take n ++ (intsV [y] ++ (intsV xs).drop n) → W.os = E.w.os → W.tape = E.w.tape → W.output = E.w.output → ∃ E' v, Ending.returned (.slice (some ⟨b', 0, none⟩) (xs.length + 1) κ') = .returned v ∧ E'.w = W ∧ InvE B E' ∧ RepF E' (.own id (g + 1)) v ∧ E'.H = upd E.H id ⟨g + 1, .row (.int .i64) (xs.take n ++ ([y] ++ xs.drop n))⟩ := by
    intro W b' κ' arr tt a1 a2 a3 a4 a5 a6 a7 a8 a9 a10 a11
    obtain ⟨E', e1, e2, e3, e4, e5⟩ := own_put (e := .int .i64) I (xs := xs) (zs := (xs.take n ++ ([y] ++ xs.drop n) : List Int)) hH W b' κ' arr tt a1 a2 a3 a4 (by show arr.size = κ' * 1; rw [a5, Nat.mul_one]) (by rw [hL]; exact a6) ⟨a7, hdr⟩ (ints_elems (ints_take (by rw [hL, hI]; exact a8))) a9 a10 a11
    rw [hL] at e4
    exact ⟨E', _, rfl, e1, e3, e4, e5⟩
  by_cases hκ : E.κ id = 0
  · have hx : xs = [] := List.length_eq_zero_iff.1 (by have := sl0.1; omega)
    subst hx
    have : n = 0 := by simpa using hn
    subst this
    rw [hκ]
    refine (Go.Proofs.Any2.slices_Insert_int_end_grow L A0 0 0 vb 0 1 vc [] (intsV [y]) E.w (by omega) (by omega) (by omega) (by omega) rfl hv1 (fun _ => rfl) (fun a _ j v h => by simp at h) hvcells (intsV_one _)).mono ?_
    rintro e w' ⟨rfl, rfl⟩
    have gc := grownCap_ge E.w 1 0 (ρ.t 3)
    refine done _ E.w.heap.size _ _ (ρ.t 3) (by rw [World.size_alloc]; show E.w.heap.size ≤ E.w.heap.size + 1; omega) (fun k hk _ => heap_old E.w.drew _ k hk) (.inr rfl) (heap_new E.w.drew _) ?_ gc (grownCap_le_maxLen _ _ _ _ (by omega)) ?_ rfl rfl rfl
    · rw [Array.size_append, size_zeroCells]
      simp [intsV, Value.cells]
      omega
    · simp [intsV]
  · obtain ⟨cur, ct, hh, hcs, hce⟩ := sl0.2 hκ
    have hcs : cur.size = E.κ id * 1 := hcs
    rw [Nat.mul_one] at hcs
    have hA0e := hA0' hκ
    subst hA0e
    have has0 : Has E id := .inr ⟨_, _, by rw [hH], hκ⟩
    have hvg : vb ≠ E.η id := fun e => hne (I.inj id id2 has0 has2 (by rw [hvb]; exact e.symm))
    have hxl := sl0.1
    have hcc := elems_ints hce
    have hct := take_ints hcc
    generalize hgb : E.η id = gb at hh hvg
    generalize hck : E.κ id = cap at hcs hxl hcapm hκ
    have hcells : ∀ j v, (intsV xs)[j]? = some v → E.w.cell? ⟨gb, 0 + j, none⟩ = some v := by
      intro j v hj
      rw [cell_of_row E.w gb _ _ _ _ hh, Nat.zero_add]
      exact hcc j v hj
    have hsp : ∀ j, j < cap → (E.w.cell? ⟨gb, 0 + j, none⟩).isSome = true := by
      intro j hj
      rw [cell_of_row E.w gb _ _ _ _ hh, Nat.zero_add, Array.getElem?_eq_getElem (by omega)]
      rfl
    have hfz : ∀ j, E.w.frozen? ⟨gb, j, none⟩ = false := fun j => by simp [World.frozen?, hh]
    have hfz2 : ∀ j, E.w.frozen? ⟨vb, j, none⟩ = false := fun j => by simp [World.frozen?, hvh]
    have hown : ∀ b', b' = gb → (b' = E.η id ∧ E.κ id ≠ 0) ∨ b' = E.w.heap.size := fun b' h => .inl ⟨by rw [h, hgb], by rw [hck]; exact hκ⟩
    by_cases hroom : xs.length + 1 ≤ cap
    · by_cases hin : n < xs.length
      · refine (Go.Proofs.Any2.slices_Insert_int_shift L gb 0 xs.length cap n vb 0 1 vc (intsV xs) (intsV [y]) E.w hin (by omega) hroom (by omega) hvg (intsV_len xs) hv1 hcells (fun j hj => hsp j (by omega)) (fun j _ => hfz _) hvcells (intsV_one _) (intsV_one _) vt ct vcur.size cur.size (by simp [World.shape?, hvh]) (by simp [World.shape?, hh]) (by omega) (hfz2 _) (hfz2 _)).mono ?_
        rintro e w' ⟨rfl, rfl⟩
        obtain ⟨c1, k1, k2, k3⟩ := cells_row ((intsV xs).drop n) (0 + (n + 1)) E.w.drew cur hh (by rw [List.length_drop, intsV_len]; omega)
        obtain ⟨c2, k4, k5, k6⟩ := cells_row (intsV [y]) (0 + n) _ c1 k1 (by rw [hv1]; omega)
        have key : c2.toList.take (xs.length + 1) = (intsV xs).take n ++ (intsV [y] ++ (intsV xs).drop n) := by
          rw [k6, k3, hv1, Nat.zero_add, Nat.zero_add]
          have l1 : (cur.toList.take (n + 1)).length = n + 1 := by rw [List.length_take, Array.length_toList]; omega
          exact splice_b _ _ _ _ _ _ l1 (by rw [← hct, List.take_take, Nat.min_eq_left hn]) hn (intsV_len xs) hv1
        obtain ⟨s1, s2, s3, s4, s5⟩ := cells_same gb ((intsV xs).drop n) (0 + (n + 1)) E.w.drew
        obtain ⟨t1, t2, t3, t4, t5⟩ := cells_same gb (intsV [y]) (0 + n) (E.w.drew.setCells gb (0 + (n + 1)) ((intsV xs).drop n))
        exact done _ gb cap c2 ct (by rw [t4, s4]; exact Nat.le_refl _) (fun k _ hk => (t5 k hk).trans (s5 k hk)) (hown gb rfl) k4 (by rw [k5, k2]; exact hcs) hroom hcapm key (t1.trans s1) (t2.trans s2) (t3.trans s3)
      · have hne' : n = xs.length := by omega
        subst hne'
        refine (Go.Proofs.Any2.slices_Insert_int_end_room L gb 0 xs.length cap vb 0 1 vc (intsV [y]) E.w (by omega) hroom (by omega) hv1 (fun j hj => by have := hsp (xs.length + j) (by omega); rwa [Nat.zero_add] at this ⊢) (fun j _ => hfz _) hvcells (intsV_one _)).mono ?_
        rintro e w' ⟨rfl, rfl⟩
        obtain ⟨c1, k1, k2, k3⟩ := cells_row (intsV [y]) (0 + xs.length) E.w cur hh (by rw [hv1]; omega)
        obtain ⟨t1, t2, t3, t4, t5⟩ := cells_same gb (intsV [y]) (0 + xs.length) E.w
        have key : c1.toList.take (xs.length + 1) = (intsV xs).take xs.length ++ (intsV [y] ++ (intsV xs).drop xs.length) := by
          rw [k3, hv1, Nat.zero_add, List.drop_of_length_le (l := intsV xs) (by rw [intsV_len]; omega), List.append_nil, List.take_append_of_le_length (by simp; omega), List.take_of_length_le (by simp; omega), hct, List.take_of_length_le (l := intsV xs) (by rw [intsV_len]; omega)]
        exact done _ gb cap c1 ct (by rw [t4]; exact Nat.le_refl _) (fun k _ hk => t5 k hk) (hown gb rfl) k1 (by rw [k2]; exact hcs) hroom hcapm key t1 t2 t3
    · by_cases hin : n < xs.length
      · refine (Go.Proofs.Any2.slices_Insert_int_grow L gb 0 xs.length cap n vb 0 1 vc (intsV xs) (intsV [y]) E.w hin (by omega) hxl (by omega) (by omega) (intsV_len xs) hv1 hcells hvcells (intsV_one _) (intsV_one _)).mono ?_
        rintro e w' ⟨rfl, rfl⟩
        have gc := grownCap_ge E.w (xs.length + 1) cap (ρ.t 3)
        have gm : grownCap E.w (xs.length + 1) cap (ρ.t 3) ≤ maxLen := grownCap_le_maxLen E.w _ _ _ (by omega)
        generalize grownCap E.w (xs.length + 1) cap (ρ.t 3) = K at gc gm
        obtain ⟨A, hA⟩ : ∃ A, (((intsV xs).take n).toArray ++ Builtin.zeroCells (Value.int .i64 0).cells (xs.length + 1 - n) ++ Builtin.zeroCells (Value.int .i64 0).cells (K - (xs.length + 1))) = A := ⟨_, rfl⟩
        have hAs : A.size = K := by
          rw [← hA, Array.size_append, Array.size_append, size_zeroCells, size_zeroCells]
          simp [intsV_len, Value.cells]
          omega
        have hAt : A.toList.take n = (intsV xs).take n := by
          rw [← hA, Array.toList_append, Array.toList_append, List.append_assoc, List.take_append_of_le_length (by simp [intsV_len]; omega), List.take_of_length_le (by simp; exact Nat.min_le_left _ _)]
        rw [hA]
        obtain ⟨c1, k1, k2, k3⟩ := cells_row (intsV [y]) n (E.w.alloc (.cells A (ρ.t 3))).drew A (heap_new E.w _) (by rw [hv1]; omega)
        obtain ⟨c2, k4, k5, k6⟩ := cells_row ((intsV xs).drop n) (n + 1) (((E.w.alloc (.cells A (ρ.t 3))).drew.setCells E.w.heap.size n (intsV [y])).drew) c1 k1 (by rw [List.length_drop, intsV_len]; omega)
        have key : c2.toList.take (xs.length + 1) = (intsV xs).take n ++ (intsV [y] ++ (intsV xs).drop n) := by
          rw [k6, k3, hv1]
          have l1 : (A.toList.take n ++ intsV [y]).length = n + 1 := by simp [hv1]; omega
          rw [List.take_append_of_le_length (l₁ := A.toList.take n ++ intsV [y]) (by omega), List.take_of_length_le (l := A.toList.take n ++ intsV [y]) (by omega)]
          exact splice_a _ _ _ _ _ _ hAt hn (intsV_len xs) hv1 (by rw [Array.length_toList]; omega)
        obtain ⟨s1, s2, s3, s4, s5⟩ := cells_same E.w.heap.size (intsV [y]) n (E.w.alloc (.cells A (ρ.t 3))).drew
        obtain ⟨t1, t2, t3, t4, t5⟩ := cells_same E.w.heap.size ((intsV xs).drop n) (n + 1) (((E.w.alloc (.cells A (ρ.t 3))).drew.setCells E.w.heap.size n (intsV [y])).drew)
        have hsz0 : ((E.w.alloc (.cells A (ρ.t 3))).drew).heap.size = E.w.heap.size + 1 := World.size_alloc _ _
        refine done _ E.w.heap.size K c2 (ρ.t 3) ?_ (fun k hk hne => (t5 k hne).trans ((s5 k hne).trans (heap_old E.w _ k hk))) (.inr rfl) k4 (by rw [k5, k2]; exact hAs) gc gm key (t1.trans s1) (t2.trans s2) (t3.trans s3)
        rw [t4]
        show E.w.heap.size ≤ ((E.w.alloc (.cells A (ρ.t 3))).drew.setCells E.w.heap.size n (intsV [y])).heap.size
        rw [s4, hsz0]; omega
      · have hne' : n = xs.length := by omega
        subst hne'
        refine (Go.Proofs.Any2.slices_Insert_int_end_grow L (some ⟨gb, 0, none⟩) xs.length cap vb 0 1 vc (intsV xs) (intsV [y]) E.w (by omega) hxl (by omega) (by omega) (intsV_len xs) hv1 (fun h => by cases h) (fun a h j v hj => by cases h; have h_ := hcells j v hj; rw [add0]; exact h_) hvcells (intsV_one _)).mono ?_
        rintro e w' ⟨rfl, rfl⟩
        have gc := grownCap_ge E.w (xs.length + 1) cap (ρ.t 3)
        have gm : grownCap E.w (xs.length + 1) cap (ρ.t 3) ≤ maxLen := grownCap_le_maxLen E.w _ _ _ (by omega)
        generalize grownCap E.w (xs.length + 1) cap (ρ.t 3) = K at gc gm
        refine done _ E.w.heap.size K _ (ρ.t 3) (by rw [World.size_alloc]; show E.w.heap.size ≤ E.w.heap.size + 1; omega) (fun k hk _ => heap_old E.w.drew _ k hk) (.inr rfl) (heap_new E.w.drew _) ?_ gc gm ?_ rfl rfl rfl
        · rw [Array.size_append, size_zeroCells]; simp [intsV_len, hv1, Value.cells]; omega
        · rw [Array.toList_append, List.take_append_of_le_length (by simp [intsV_len, hv1]), List.take_of_length_le (by simp [intsV_len, hv1]), List.drop_of_length_le (l := intsV xs) (by rw [intsV_len]; omega), List.take_of_length_le (l := intsV xs) (by rw [intsV_len]; omega), List.append_nil]
@[reducible] def insIn : Cut := ⟨[], [], [(0, .own 1073741824), (1, .one), (2, .own 1073741825)], [], [(1073741824, .int .i64), (1073741825, .int .i64)], [.int .i64, .lst (.int .i64), .lst (.int .i64)]⟩
@[reducible] def insOut (r : Nat) : Cut := ⟨[], [], [(r, .own 1073741824)], [], [(1073741824, .int .i64)], [.lst (.int .i64)]⟩
def insF (i : Int) (l0 l2 : List Int) : Option (List Int) := if 0 ≤ i then (if i ≤ (l0.length : Int) then (if l2.length = 1 then (if l0.length < 17592186044415 then some (l0.take i.toNat ++ (l2 ++ l0.drop i.toNat)) else none) else none) else none) else none
theorem ins_ent {P : Program} (hT : TblOk P T) {ρ : Go.Shelf.Ren} (L : Go.Proofs.Lays2.n21 P ρ) (hen : Enters P (ρ.f 21)) (r : Nat) : Ent2Ok P T ⟨ρ.f 21, 3, insIn, insOut r, [.tmp r], fun x => insF x.1 x.2.1 x.2.2⟩ := by
  refine ⟨hen, fun x y h B E cargs I hH hf hl => ?_⟩
  obtain ⟨i, xs, vs⟩ := x
  have h : insF i xs vs = some y := h
  unfold insF at h
  split at h
  · rename_i h0
    split at h
    · rename_i h1
      split at h
      · rename_i h2
        split at h
        · rename_i h3
          have hy := Option.some.inj h
          have h0 : (0 : Int) ≤ i := h0
          obtain ⟨n, rfl⟩ : ∃ n : Nat, i = (n : Int) := ⟨Int.toNat i, (Int.toNat_of_nonneg h0).symm⟩
          obtain ⟨z, rfl⟩ : ∃ z, vs = [z] := List.length_eq_one_iff.1 h2
          rw [Int.toNat_natCast] at hy
          have f0 := hf 0
          have f1 := hf 1
          have f2 := hf 2
          obtain ⟨v0, v1, v2, rfl⟩ : ∃ v0 v1 v2, cargs = [v0, v1, v2] := by
            have hl : cargs.length = 3 := hl
            match cargs, hl with
            | [a, b, c], _ => exact ⟨a, b, c, rfl⟩
          have f0 : RepF E (.own 1073741824 1) v0 := f0
          have f1 : RepF E (.d (.int .i64 (n : Int))) v1 := f1
          have f2 : RepF E (.own 1073741825 1) v2 := f2
          rw [RepF] at f1
          rw [rep_int.1 f1]
          have hHa : E.H 1073741824 = ⟨1, .row (.int .i64) xs⟩ := by rw [hH]; rfl
          have hHb : E.H 1073741825 = ⟨1, .row (.int .i64) [z]⟩ := by rw [hH]; rfl
          refine (ins_core (hdr := (by decide : 1073741824 < HR)) L I (by decide) hHa hHb f0 f2 n (by omega) h3).mono ?_
          rintro e w' ⟨E', v, rfl, rfl, I', hv, hH'⟩
          let s : St T := ⟨fun t => if t = r then .own 1073741824 2 else .non, E'.H⟩
          have hrel : Rel B E' s.f { tmps := (Array.replicate (r + 1) undef).setIfInBounds r v, defers := [] } (r + 1) := by
            refine ⟨I', by simp, fun t => ?_, rfl⟩
            show RepF E' (if t = r then .own 1073741824 2 else .non) _
            by_cases e : t = r
            · subst e; rw [if_pos rfl]
              have : ((Array.replicate (t + 1) undef).setIfInBounds t v).getD t undef = v := by simp [Array.getD]
              rw [this]; exact hv
            · rw [if_neg e, RepF]; trivial
          have hcut : cutS (insOut r) s = some y := by
            have hs : s = ⟨fun t => if t = r then .own 1073741824 2 else .non, upd (canonC (T := T) insIn ((n : Int), xs, [z])).h 1073741824 ⟨2, .row (.int .i64) y⟩⟩ := by
              show (⟨_, E'.H⟩ : St T) = _
              rw [hH', hH, hy]
            rw [hs]
            have hrr : Nat.beq r r = true := Nat.beq_refl r
            simp only [cutS, insOut, frzl, List.map_cons, List.map_nil, List.append_nil, frzFs, norm, memN, hrr, getF, if_true, getB, getR, okM, boxOk]
            rfl
          obtain ⟨E2, w2, r2, H2⟩ := cut_ok (P := P) hT hrel rfl hcut
          refine ⟨.own 1073741824 1, E2, v, ?_, rfl, w2, r2.inv, H2, ?_⟩
          · have hrr : Nat.beq r r = true := Nat.beq_refl r
            have hfr : (canonC (T := T) (insOut r) y).f r = .own 1073741824 1 := by
              show lookN (FV.non : FV T) [(r, FV.own 1073741824 1)] r = _
              unfold lookN; rw [hrr]
            show (match (match some ((canonC (T := T) (insOut r) y).f r), some [] with | some v, some l => some (v :: l) | _, _ => none) with | some [v] => some v | some l => some (.tup l) | none => none) = _
            rw [hfr]
          · have hfr := r2.frame r
            have hrr : Nat.beq r r = true := Nat.beq_refl r
            have : (canonC (T := T) (insOut r) y).f r = .own 1073741824 1 := by
              show lookN (FV.non : FV T) [(r, FV.own 1073741824 1)] r = _
              unfold lookN; rw [hrr]
            rw [this] at hfr
            have hg : ((Array.replicate (r + 1) undef).setIfInBounds r v).getD r undef = v := by simp [Array.getD]
            rw [hg] at hfr
            exact hfr
        · cases h
      · cases h
    · cases h
  · cases h
end
end Go.Proofs.Ytejfjfhopapaaaa.PE
namespace Go.Proofs.Ytejfjfhopapaaaa.PE
noncomputable section
set_option linter.unusedVariables false
open Go Go.RowKit Go.ChangeShapes Go.WideShapes
variable {T : Tbl}
/-- Cells that are these values, one by one. -/
def CellsR (T : Tbl) (w : World) (ys : List (Dyn T.ST)) (cs : List Value) : Prop := cs.length = ys.length ∧ ∀ (j : Nat) y, ys[j]? = some y → ∃ cv, cs[j]? = some cv ∧ Rep T w (fun b => b < w.heap.size) y cv
theorem CellsR.one {w : World} {y : Dyn T.ST} {cv : Value} (h : Rep T w (fun b => b < w.heap.size) y cv) : CellsR T w [y] [cv] := by
  refine ⟨rfl, fun j z hj => ?_⟩
  cases j with
  | zero => simp at hj; subst hj; exact ⟨cv, rfl, h⟩
  | succ j => simp at hj
theorem CellsR.nil {w : World} {cs : List Value} {o : Nat} (h : cs.length = o) : CellsR T w [] (cs.drop o) := ⟨by rw [List.length_drop, h, Nat.sub_self]; rfl, fun j y hj => by simp at hj⟩
theorem CellsR.seq {w : World} {ys zs : List (Dyn T.ST)} {cs : List Value} {o s : Nat} (h : CellsR T w ys ((cs.drop o).take s)) (hs : ys.length = s) (k : CellsR T w zs (cs.drop (o + s))) : CellsR T w (ys ++ zs) (cs.drop o) := by
  have e : cs.drop o = (cs.drop o).take s ++ cs.drop (o + s) := by rw [← List.drop_drop]; exact (List.take_append_drop s (cs.drop o)).symm
  rw [e]
  refine ⟨by rw [List.length_append, List.length_append, h.1, k.1], fun j y hj => ?_⟩
  by_cases hlt : j < ys.length
  · rw [List.getElem?_append_left hlt] at hj
    obtain ⟨cv, h1, h2⟩ := h.2 j y hj
    exact ⟨cv, by rw [List.getElem?_append_left (by rw [h.1]; exact hlt)]; exact h1, h2⟩
  · rw [List.getElem?_append_right (by omega)] at hj
    obtain ⟨cv, h1, h2⟩ := k.2 _ y hj
    exact ⟨cv, by rw [List.getElem?_append_right (by rw [h.1]; omega), h.1]; exact h1, h2⟩
/-- Each list of cells of type t that is read with that much fuel is a value of the code e, and as ok says. -/
def Opens {H : Type} (enc : TypeId × Value → H) (P : Program) (T : Tbl) (w : World) (t : TypeId) (e : E) (ok : Den T.ST e → Prop) (n : Nat) : Prop :=
  ∀ cs x, DataW.trod enc P w 0 (fun _ => true) true n t cs = some x → ∃ a : Den T.ST e, CellsR T w (cellsE T e a) cs ∧ ok a
section
variable {H : Type} {enc : TypeId × Value → H} {P : Program} {w : World} {t e' : TypeId} {n : Nat}
theorem opens_int {k : IntKind} (ht : P.underlying t = some (.int k)) : Opens enc P T w t (.int k) (fun a => (Lit.int k a).wf = true) n := by
  intro cs x h
  obtain ⟨a, rfl, _, hw⟩ := DataW.trod_int ht h
  exact ⟨a, CellsR.one (rep_int.2 rfl), hw⟩
theorem opens_bool (ht : P.underlying t = some .bool) : Opens enc P T w t .bool (fun _ => True) n := by
  intro cs x h
  obtain ⟨a, rfl, _⟩ := DataW.trod_bool ht h
  exact ⟨a, CellsR.one (rep_bool.2 rfl), trivial⟩
theorem opens_string (ht : P.underlying t = some .string) : Opens enc P T w t .str (fun a => a.size ≤ maxLen) n := by
  intro cs x h
  obtain ⟨a, rfl, _, hs⟩ := DataW.trod_string ht h
  exact ⟨a, CellsR.one (rep_str.2 rfl), hs⟩
theorem cells_get {a : Addr} {m : Nat} {cs : List Value} (h : w.cells? 0 a m = some cs) : cs.length = m ∧ ∀ (i : Nat) u, cs[i]? = some u → w.cell? (a.add i) = some u := by
  unfold World.cells? at h
  rw [if_pos (Nat.zero_le _)] at h
  have hl := mapM_some_length h
  refine ⟨by simpa using hl, fun i u hu => ?_⟩
  have hi : i < m := by
    have := (List.getElem?_eq_some_iff.1 hu).1
    simp at hl
    omega
  have := mapM_some_get h i i (by simp [hi])
  rw [this]
  exact hu
theorem addr_add (a : Addr) (i j : Nat) : (a.add i).add j = a.add (i + j) := by
  unfold Addr.add
  by_cases hi : i = 0
  · subst hi; simp
  · by_cases hj : j = 0
    · subst hj; simp [hi]
    · simp [hi, hj, Nat.add_assoc]
theorem choose_list {α : Type} {β : Type} (P' : α → β → Prop) : ∀ (l : List β), (∀ b ∈ l, ∃ a, P' a b) → ∃ ars : List α, ars.length = l.length ∧ ∀ (j : Nat) a b, ars[j]? = some a → l[j]? = some b → P' a b := by
  intro l
  induction l with
  | nil => intro _; exact ⟨[], rfl, fun j a b h => by simp at h⟩
  | cons b l ih =>
    intro h
    obtain ⟨a, ha⟩ := h b List.mem_cons_self
    obtain ⟨ars, hl, hp⟩ := ih (fun b' hb' => h b' (List.mem_cons_of_mem _ hb'))
    refine ⟨a :: ars, by simp [hl], fun j x y hx hy => ?_⟩
    cases j with
    | zero =>
      simp at hx hy
      subst hx; subst hy
      exact ha
    | succ j => exact hp j x y (by simpa using hx) (by simpa using hy)
theorem cell_lt {a : Addr} {v : Value} (h : w.cell? a = some v) : a.block < w.heap.size := by
  unfold World.cell? at h
  cases hb : w.heap[a.block]? with
  | none => rw [hb] at h; simp at h
  | some b => exact (Array.getElem?_eq_some_iff.1 hb).1
theorem opens_slice (hT : TblOk P T) {e : E} {ok : Den T.ST e → Prop} (ht : P.underlying t = some (.slice e')) (he : T.ety e' = some e) (hsz : P.cellsOf e' = szE T e) (h0 : ∀ m, m < n → Opens enc P T w e' e ok m) :
    Opens enc P T w t (.lst e) (fun xs => xs.length ≤ maxLen ∧ ∀ x ∈ xs, ok x) n := by
  intro cs x h
  have hpos := (hT.ty _ _ he).pos
  rcases DataW.trod_slice ht h with ⟨rfl, _⟩ | ⟨a, len, cap, elems, rest, m, rfl, rfl, _, _, hl, hm, hlen, hel, _⟩
  · exact ⟨[], CellsR.one (rep_lst_mk (xs := ([] : List (Den T.ST e))) (Nat.le_refl _) (fun h => absurd rfl h)), Nat.zero_le _, fun x hx => by cases hx⟩
  · have key : ∀ b ∈ List.range len, ∃ y : Den T.ST e, ∃ c, (CellsR T w (cellsE T e y) c ∧ ∀ (i : Nat) u, c[i]? = some u → w.cell? (a.add (b * szE T e + i)) = some u) ∧ ok y := by
      intro b hb
      have hb' : b < len := by simpa using hb
      have h1 := hel b hb'
      have h2 : elems[b]? = some elems[b] := List.getElem?_eq_getElem (by omega)
      rw [h2] at h1
      obtain ⟨c, hc, ht2⟩ := Option.bind_eq_some_iff.1 h1
      obtain ⟨y, hK, hy⟩ := h0 m (by omega) c _ ht2
      rw [hsz] at hc
      obtain ⟨hcl, hcg⟩ := cells_get hc
      exact ⟨y, c, ⟨hK, fun i u hu => by rw [← addr_add]; exact hcg i u hu⟩, hy⟩
    obtain ⟨ys, hyl, hy⟩ := choose_list (fun (y : Den T.ST e) (b : Nat) => ∃ c, (CellsR T w (cellsE T e y) c ∧ ∀ (i : Nat) u, c[i]? = some u → w.cell? (a.add (b * szE T e + i)) = some u) ∧ ok y) (List.range len) key
    have hyl' : ys.length = len := by simpa using hyl
    have get : ∀ (j : Nat) y, ys[j]? = some y → ∃ c, (CellsR T w (cellsE T e y) c ∧ ∀ (i : Nat) u, c[i]? = some u → w.cell? (a.add (j * szE T e + i)) = some u) ∧ ok y := by
      intro j y hj
      have hj' : j < len := by
        have := (List.getElem?_eq_some_iff.1 hj).1
        omega
      exact hy j y j hj (by simp [hj'])
    refine ⟨ys, ?_, by omega, fun y hyy => ?_⟩
    · have hrep : Rep T w (fun b => b < w.heap.size) (.lst e ys) (.slice (some a) ys.length cap) := by
        refine rep_lst_mk (by omega) (fun hne => ?_)
        have hl0 : 0 < ys.length := List.length_pos_iff.2 hne
        have cell0 : ∃ u, w.cell? (a.add 0) = some u := by
          obtain ⟨c, ⟨h1, h2⟩, _⟩ := get 0 ys[0] (List.getElem?_eq_getElem hl0)
          have hc0 : 0 < c.length := by rw [h1.1, cells_len hT]; exact hpos
          exact ⟨c[0], by have := h2 0 c[0] (List.getElem?_eq_getElem hc0); simpa using this⟩
        obtain ⟨u, hu⟩ := cell0
        have hu' : w.cell? a = some u := by simpa [Addr.add] using hu
        have hspot := World.cell?_spot hu'
        obtain ⟨b, off, spot⟩ := a
        have hspot : spot = none := hspot
        subst hspot
        refine ⟨b, off, rfl, cell_lt hu', fun i x hi j y hj => ?_⟩
        obtain ⟨c, ⟨h1, h2⟩, _⟩ := get i x hi
        obtain ⟨cv, h3, h4⟩ := h1.2 j y hj
        refine ⟨cv, ?_, h4⟩
        have := h2 j cv h3
        rw [add0] at this
        exact this
      have hc := CellsR.one hrep
      rw [hyl'] at hc
      exact hc
    · obtain ⟨j, hj⟩ := List.mem_iff_getElem?.1 hyy
      obtain ⟨c, _, ho⟩ := get j y hj
      exact ho
end
/-- One argument after the other. -/
theorem repL_cons {E : Env T} {c : FV T} {cs : List (FV T)} {v : Value} {vs : List Value} (h : RepF E c v) (k : RepL E cs vs) : RepL E (c :: cs) (v :: vs) := by
  rw [RepL]; exact ⟨v, vs, rfl, h, k⟩
theorem repL_nil {E : Env T} : RepL E ([] : List (FV T)) [] := by rw [RepL]
theorem repL_cells {w : World} : ∀ {ys : List (Dyn T.ST)} {cs : List Value}, CellsR T w ys cs → RepL (E0 T w (fun b => b < w.heap.size)) (ys.map FV.d) cs := by
  intro ys
  induction ys with
  | nil =>
    intro cs h
    have : cs = [] := List.length_eq_zero_iff.1 h.1
    subst this
    exact repL_nil
  | cons y ys ih =>
    intro cs h
    cases cs with
    | nil => exact absurd h.1 (by simp)
    | cons c cs =>
      refine repL_cons ?_ (ih ⟨by simpa using h.1, fun j z hj => ?_⟩)
      · obtain ⟨cv, h1, h2⟩ := h.2 0 y rfl
        simp at h1
        subst h1
        rw [RepF]
        exact h2
      · obtain ⟨cv, h1, h2⟩ := h.2 (j + 1) z (by simpa using hj)
        exact ⟨cv, by simpa using h1, h2⟩
theorem rep_agg {w : World} {ys : List (Dyn T.ST)} {cs : List Value} (h : CellsR T w ys cs) : RepF (E0 T w (fun b => b < w.heap.size)) (.agg (ys.map FV.d)) (.agg cs.toArray) := by
  rw [RepF]; exact ⟨cs, rfl, repL_cells h⟩
theorem rep_one {w : World} {y : Dyn T.ST} {v : Value} (h : CellsR T w [y] [v]) : RepF (E0 T w (fun b => b < w.heap.size)) (.d y) v := by
  obtain ⟨cv, h1, h2⟩ := h.2 0 y rfl
  simp at h1
  subst h1
  rw [RepF]; exact h2
/-- A law's call: what it comes to is true. -/
theorem law_calls {P : Program} {n : FuncId} {ash : List Sh} {aes : List E} {F : TupT T.ST aes → Option (TupT T.ST [.bool])} (hok : EntOk P T ⟨n, ash, aes, .one, [.bool], F⟩) {x : TupT T.ST aes} {r : Bool} (hr : F x = some r) {w : World} {cargs : List Value}
    (ha : RepL (E0 T w (fun b => b < w.heap.size)) (argL ash aes x) cargs) : Calls P n cargs.toArray w (fun e w' => e = .returned (.bool r) ∧ Below w.heap.size w w') := by
  refine (hok.2 x r hr w (fun b => b < w.heap.size) cargs (fun b h => h) ha).mono fun e w' h => ?_
  obtain ⟨v, S', rfl, hb, _, _, _, hv⟩ := h
  have hv : RepF (E0 T w' S') (.d (.bool r)) v := hv
  rw [RepF] at hv
  rw [rep_bool.1 hv]
  exact ⟨rfl, hb⟩
end
end Go.Proofs.Ytejfjfhopapaaaa.PE
