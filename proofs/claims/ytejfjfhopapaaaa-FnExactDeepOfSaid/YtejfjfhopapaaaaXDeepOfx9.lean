-- printed by a program of this session (xprint, turned from the kit's print) for this claim
import Derived.Test.YtejfjfhopapaaaaXDeepOfx0
import Derived.Test.YtejfjfhopapaaaaXDeepOfx8
namespace Go.Proofs.Ytejfjfhopapaaaa.XDeepOf
open Go.RowKit Go.Proofs.Ytejfjfhopapaaaa.XOpens Go.Proofs.YtejfjfhopapaaaaW.PrintWords Go.Proofs.YtejfjfhopapaaaaW.PrintLast Go.Proofs.YtejfjfhopapaaaaW.PrintMore
attribute [local go_sem] max2_int min2_int max_two min_two max_three min_three max_four min_four   -- for this text's walks alone
set_option linter.unusedVariables false
set_option linter.unusedSimpArgs false

open Go.Proofs.Ytejfjfhopapaaaa.XOpens in
inductive Wf_L_Term : L_Term → Prop
  | mk (x : L_Term) (h0 : (Lit.int .i64 x.f0).wf = true) (h1 : (Lit.int .i64 x.f1).wf = true) (h2 : x.f2.length ≤ maxLen) (g2 : ∀ y ∈ x.f2, Wf_L_Term y) : Wf_L_Term x

open Go.Proofs.Ytejfjfhopapaaaa.XOpens in
theorem opens_L_Term {H : Type} {enc : TypeId × Value → H} {w : World} (n : Nat) : Opens enc Try.prog w 25 k25 Wf_L_Term n := by
  induction n using Nat.strongRecOn with
  | _ n ih =>
  intro cs x h
  obtain ⟨xs, m, rfl, _, hl, hxl, hf⟩ := DataW.trod_struct Try.underlying25 h
  rw [show Try.prog.cellsOf 25 = 3 from by kernel_rfl] at hl
  have g0 : DataW.trod enc Try.prog w 0 (fun _ => true) true m 3 (List.take (Try.prog.cellsOf 3) (List.drop 0 cs)) = xs[0]? := hf 0 _ rfl
  rw [List.getElem?_eq_getElem (show 0 < xs.length by rw [hxl]; simp)] at g0
  rw [show Try.prog.cellsOf 3 = 1 from by kernel_rfl] at g0
  obtain ⟨a0, k0_, w0⟩ := ((opens_int Try.underlying3) : Opens enc Try.prog w 3 (Kd.int .i64) (fun a => (Lit.int .i64 a).wf = true) m) _ _ g0
  have e0 : (cs.drop 0).take 1 = [.int .i64 a0] := k0_
  have g1 : DataW.trod enc Try.prog w 0 (fun _ => true) true m 3 (List.take (Try.prog.cellsOf 3) (List.drop 1 cs)) = xs[1]? := hf 1 _ rfl
  rw [List.getElem?_eq_getElem (show 1 < xs.length by rw [hxl]; simp)] at g1
  rw [show Try.prog.cellsOf 3 = 1 from by kernel_rfl] at g1
  obtain ⟨a1, k1_, w1⟩ := ((opens_int Try.underlying3) : Opens enc Try.prog w 3 (Kd.int .i64) (fun a => (Lit.int .i64 a).wf = true) m) _ _ g1
  have e1 : (cs.drop 1).take 1 = [.int .i64 a1] := k1_
  have g2 : DataW.trod enc Try.prog w 0 (fun _ => true) true m 23 (List.take (Try.prog.cellsOf 23) (List.drop 2 cs)) = xs[2]? := hf 2 _ rfl
  rw [List.getElem?_eq_getElem (show 2 < xs.length by rw [hxl]; simp)] at g2
  rw [show Try.prog.cellsOf 23 = 1 from by kernel_rfl] at g2
  obtain ⟨a2, k2_, w2⟩ := ((opens_slice Try.underlying23 (by kernel_rfl) (fun m_ hm_ => (ih m_ (by omega)))) : Opens enc Try.prog w 23 (Kd.slice 25 k25) (fun a => (a.length ≤ maxLen ∧ ∀ y ∈ a, Wf_L_Term y)) m) _ _ g2
  obtain ⟨A2, c2, e2, l2, q2⟩ := k2_
  have hc := (List.drop_zero (l := cs)).symm.trans ((show cs.drop 0 = (cs.drop 0).take 1 ++ cs.drop 1 from seg_split cs 0 1).trans (congrArg ((cs.drop 0).take 1 ++ ·) ((show cs.drop 1 = (cs.drop 1).take 1 ++ cs.drop 2 from seg_split cs 1 1).trans (congrArg ((cs.drop 1).take 1 ++ ·) ((show cs.drop 2 = (cs.drop 2).take 1 ++ cs.drop 3 from seg_split cs 2 1).trans (congrArg ((cs.drop 2).take 1 ++ ·) (seg_end cs 3 hl)))))))
  rw [e0, e1, e2] at hc
  simp only [List.cons_append, List.nil_append, List.append_nil] at hc
  exact ⟨⟨a0, a1, a2⟩, by rw [hc]; exact k25_mk w ⟨a0, a1, a2⟩ l2 q2, Wf_L_Term.mk _ w0 w1 w2.1 w2.2⟩

open Go.Proofs.Ytejfjfhopapaaaa.XOpens in
def Wf_L_Bind (x : L_Bind) : Prop := (Lit.int .i64 x.f0).wf = true ∧ Wf_L_Term x.f1

open Go.Proofs.Ytejfjfhopapaaaa.XOpens in
theorem opens_L_Bind {H : Type} {enc : TypeId × Value → H} {w : World} (n : Nat) : Opens enc Try.prog w 273 k273 Wf_L_Bind n := by
  induction n using Nat.strongRecOn with
  | _ n ih =>
  intro cs x h
  obtain ⟨xs, m, rfl, _, hl, hxl, hf⟩ := DataW.trod_struct Try.underlying273 h
  rw [show Try.prog.cellsOf 273 = 4 from by kernel_rfl] at hl
  have g0 : DataW.trod enc Try.prog w 0 (fun _ => true) true m 3 (List.take (Try.prog.cellsOf 3) (List.drop 0 cs)) = xs[0]? := hf 0 _ rfl
  rw [List.getElem?_eq_getElem (show 0 < xs.length by rw [hxl]; simp)] at g0
  rw [show Try.prog.cellsOf 3 = 1 from by kernel_rfl] at g0
  obtain ⟨a0, k0_, w0⟩ := ((opens_int Try.underlying3) : Opens enc Try.prog w 3 (Kd.int .i64) (fun a => (Lit.int .i64 a).wf = true) m) _ _ g0
  have e0 : (cs.drop 0).take 1 = [.int .i64 a0] := k0_
  have g1 : DataW.trod enc Try.prog w 0 (fun _ => true) true m 25 (List.take (Try.prog.cellsOf 25) (List.drop 1 cs)) = xs[1]? := hf 1 _ rfl
  rw [List.getElem?_eq_getElem (show 1 < xs.length by rw [hxl]; simp)] at g1
  rw [show Try.prog.cellsOf 25 = 3 from by kernel_rfl] at g1
  obtain ⟨a1, k1_, w1⟩ := ((opens_L_Term _) : Opens enc Try.prog w 25 k25 (fun a => Wf_L_Term a) m) _ _ g1
  obtain ⟨A1_2, c1_2, e1, l1_2, q1_2⟩ := k25_open k1_
  have hc := (List.drop_zero (l := cs)).symm.trans ((show cs.drop 0 = (cs.drop 0).take 1 ++ cs.drop 1 from seg_split cs 0 1).trans (congrArg ((cs.drop 0).take 1 ++ ·) ((show cs.drop 1 = (cs.drop 1).take 3 ++ cs.drop 4 from seg_split cs 1 3).trans (congrArg ((cs.drop 1).take 3 ++ ·) (seg_end cs 4 hl)))))
  rw [e0, e1] at hc
  simp only [List.cons_append, List.nil_append, List.append_nil] at hc
  exact ⟨⟨a0, a1⟩, by rw [hc]; exact k273_mk w ⟨a0, a1⟩ l1_2 q1_2, ⟨w0, w1⟩⟩

open Go.Proofs.Ytejfjfhopapaaaa.XOpens in
def Wf_L_Lit (x : L_Lit) : Prop := True ∧ Wf_L_Term x.f1 ∧ Wf_L_Term x.f2

open Go.Proofs.Ytejfjfhopapaaaa.XOpens in
theorem opens_L_Lit {H : Type} {enc : TypeId × Value → H} {w : World} (n : Nat) : Opens enc Try.prog w 139 k139 Wf_L_Lit n := by
  induction n using Nat.strongRecOn with
  | _ n ih =>
  intro cs x h
  obtain ⟨xs, m, rfl, _, hl, hxl, hf⟩ := DataW.trod_struct Try.underlying139 h
  rw [show Try.prog.cellsOf 139 = 7 from by kernel_rfl] at hl
  have g0 : DataW.trod enc Try.prog w 0 (fun _ => true) true m 4 (List.take (Try.prog.cellsOf 4) (List.drop 0 cs)) = xs[0]? := hf 0 _ rfl
  rw [List.getElem?_eq_getElem (show 0 < xs.length by rw [hxl]; simp)] at g0
  rw [show Try.prog.cellsOf 4 = 1 from by kernel_rfl] at g0
  obtain ⟨a0, k0_, w0⟩ := ((opens_bool Try.underlying4) : Opens enc Try.prog w 4 Kd.bool (fun a => True) m) _ _ g0
  have e0 : (cs.drop 0).take 1 = [.bool a0] := k0_
  have g1 : DataW.trod enc Try.prog w 0 (fun _ => true) true m 25 (List.take (Try.prog.cellsOf 25) (List.drop 1 cs)) = xs[1]? := hf 1 _ rfl
  rw [List.getElem?_eq_getElem (show 1 < xs.length by rw [hxl]; simp)] at g1
  rw [show Try.prog.cellsOf 25 = 3 from by kernel_rfl] at g1
  obtain ⟨a1, k1_, w1⟩ := ((opens_L_Term _) : Opens enc Try.prog w 25 k25 (fun a => Wf_L_Term a) m) _ _ g1
  obtain ⟨A1_2, c1_2, e1, l1_2, q1_2⟩ := k25_open k1_
  have g2 : DataW.trod enc Try.prog w 0 (fun _ => true) true m 25 (List.take (Try.prog.cellsOf 25) (List.drop 4 cs)) = xs[2]? := hf 2 _ rfl
  rw [List.getElem?_eq_getElem (show 2 < xs.length by rw [hxl]; simp)] at g2
  rw [show Try.prog.cellsOf 25 = 3 from by kernel_rfl] at g2
  obtain ⟨a2, k2_, w2⟩ := ((opens_L_Term _) : Opens enc Try.prog w 25 k25 (fun a => Wf_L_Term a) m) _ _ g2
  obtain ⟨A2_2, c2_2, e2, l2_2, q2_2⟩ := k25_open k2_
  have hc := (List.drop_zero (l := cs)).symm.trans ((show cs.drop 0 = (cs.drop 0).take 1 ++ cs.drop 1 from seg_split cs 0 1).trans (congrArg ((cs.drop 0).take 1 ++ ·) ((show cs.drop 1 = (cs.drop 1).take 3 ++ cs.drop 4 from seg_split cs 1 3).trans (congrArg ((cs.drop 1).take 3 ++ ·) ((show cs.drop 4 = (cs.drop 4).take 3 ++ cs.drop 7 from seg_split cs 4 3).trans (congrArg ((cs.drop 4).take 3 ++ ·) (seg_end cs 7 hl)))))))
  rw [e0, e1, e2] at hc
  simp only [List.cons_append, List.nil_append, List.append_nil] at hc
  exact ⟨⟨a0, a1, a2⟩, by rw [hc]; exact k139_mk w ⟨a0, a1, a2⟩ l1_2 q1_2 l2_2 q2_2, ⟨w0, w1, w2⟩⟩

open Go.Proofs.Ytejfjfhopapaaaa.XOpens in
def Wf_L_Clause (x : L_Clause) : Prop := (x.f0.length ≤ maxLen ∧ ∀ y ∈ x.f0, Wf_L_Lit y)

open Go.Proofs.Ytejfjfhopapaaaa.XOpens in
theorem opens_L_Clause {H : Type} {enc : TypeId × Value → H} {w : World} (n : Nat) : Opens enc Try.prog w 187 k187 Wf_L_Clause n := by
  induction n using Nat.strongRecOn with
  | _ n ih =>
  intro cs x h
  obtain ⟨xs, m, rfl, _, hl, hxl, hf⟩ := DataW.trod_struct Try.underlying187 h
  rw [show Try.prog.cellsOf 187 = 1 from by kernel_rfl] at hl
  have g0 : DataW.trod enc Try.prog w 0 (fun _ => true) true m 22 (List.take (Try.prog.cellsOf 22) (List.drop 0 cs)) = xs[0]? := hf 0 _ rfl
  rw [List.getElem?_eq_getElem (show 0 < xs.length by rw [hxl]; simp)] at g0
  rw [show Try.prog.cellsOf 22 = 1 from by kernel_rfl] at g0
  obtain ⟨a0, k0_, w0⟩ := ((opens_slice Try.underlying22 (by kernel_rfl) (fun m_ hm_ => (opens_L_Lit _))) : Opens enc Try.prog w 22 (Kd.slice 139 k139) (fun a => (a.length ≤ maxLen ∧ ∀ y ∈ a, Wf_L_Lit y)) m) _ _ g0
  obtain ⟨A0, c0, e0, l0, q0⟩ := k0_
  have hc := (List.drop_zero (l := cs)).symm.trans ((show cs.drop 0 = (cs.drop 0).take 1 ++ cs.drop 1 from seg_split cs 0 1).trans (congrArg ((cs.drop 0).take 1 ++ ·) (seg_end cs 1 hl)))
  rw [e0] at hc
  simp only [List.cons_append, List.nil_append, List.append_nil] at hc
  exact ⟨⟨a0⟩, by rw [hc]; exact k187_mk w ⟨a0⟩ l0 q0, w0⟩

open Go.Proofs.Ytejfjfhopapaaaa.XOpens in
def Wf_L_Step (x : L_Step) : Prop := (Lit.int .i64 x.f0).wf = true ∧ (Lit.int .i64 x.f1).wf = true ∧ (Lit.int .i64 x.f2).wf = true ∧ (Lit.int .i64 x.f3).wf = true ∧ (Lit.int .i64 x.f4).wf = true ∧ True ∧ True ∧ (x.f7.length ≤ maxLen ∧ ∀ y ∈ x.f7, (Lit.int .i64 y).wf = true) ∧ True ∧ (x.f9.length ≤ maxLen ∧ ∀ y ∈ x.f9, Wf_L_Bind y) ∧ Wf_L_Clause x.f10

open Go.Proofs.Ytejfjfhopapaaaa.XOpens in
theorem opens_L_Step {H : Type} {enc : TypeId × Value → H} {w : World} (n : Nat) : Opens enc Try.prog w 189 k189 Wf_L_Step n := by
  induction n using Nat.strongRecOn with
  | _ n ih =>
  intro cs x h
  obtain ⟨xs, m, rfl, _, hl, hxl, hf⟩ := DataW.trod_struct Try.underlying189 h
  rw [show Try.prog.cellsOf 189 = 11 from by kernel_rfl] at hl
  have g0 : DataW.trod enc Try.prog w 0 (fun _ => true) true m 3 (List.take (Try.prog.cellsOf 3) (List.drop 0 cs)) = xs[0]? := hf 0 _ rfl
  rw [List.getElem?_eq_getElem (show 0 < xs.length by rw [hxl]; simp)] at g0
  rw [show Try.prog.cellsOf 3 = 1 from by kernel_rfl] at g0
  obtain ⟨a0, k0_, w0⟩ := ((opens_int Try.underlying3) : Opens enc Try.prog w 3 (Kd.int .i64) (fun a => (Lit.int .i64 a).wf = true) m) _ _ g0
  have e0 : (cs.drop 0).take 1 = [.int .i64 a0] := k0_
  have g1 : DataW.trod enc Try.prog w 0 (fun _ => true) true m 3 (List.take (Try.prog.cellsOf 3) (List.drop 1 cs)) = xs[1]? := hf 1 _ rfl
  rw [List.getElem?_eq_getElem (show 1 < xs.length by rw [hxl]; simp)] at g1
  rw [show Try.prog.cellsOf 3 = 1 from by kernel_rfl] at g1
  obtain ⟨a1, k1_, w1⟩ := ((opens_int Try.underlying3) : Opens enc Try.prog w 3 (Kd.int .i64) (fun a => (Lit.int .i64 a).wf = true) m) _ _ g1
  have e1 : (cs.drop 1).take 1 = [.int .i64 a1] := k1_
  have g2 : DataW.trod enc Try.prog w 0 (fun _ => true) true m 3 (List.take (Try.prog.cellsOf 3) (List.drop 2 cs)) = xs[2]? := hf 2 _ rfl
  rw [List.getElem?_eq_getElem (show 2 < xs.length by rw [hxl]; simp)] at g2
  rw [show Try.prog.cellsOf 3 = 1 from by kernel_rfl] at g2
  obtain ⟨a2, k2_, w2⟩ := ((opens_int Try.underlying3) : Opens enc Try.prog w 3 (Kd.int .i64) (fun a => (Lit.int .i64 a).wf = true) m) _ _ g2
  have e2 : (cs.drop 2).take 1 = [.int .i64 a2] := k2_
  have g3 : DataW.trod enc Try.prog w 0 (fun _ => true) true m 3 (List.take (Try.prog.cellsOf 3) (List.drop 3 cs)) = xs[3]? := hf 3 _ rfl
  rw [List.getElem?_eq_getElem (show 3 < xs.length by rw [hxl]; simp)] at g3
  rw [show Try.prog.cellsOf 3 = 1 from by kernel_rfl] at g3
  obtain ⟨a3, k3_, w3⟩ := ((opens_int Try.underlying3) : Opens enc Try.prog w 3 (Kd.int .i64) (fun a => (Lit.int .i64 a).wf = true) m) _ _ g3
  have e3 : (cs.drop 3).take 1 = [.int .i64 a3] := k3_
  have g4 : DataW.trod enc Try.prog w 0 (fun _ => true) true m 3 (List.take (Try.prog.cellsOf 3) (List.drop 4 cs)) = xs[4]? := hf 4 _ rfl
  rw [List.getElem?_eq_getElem (show 4 < xs.length by rw [hxl]; simp)] at g4
  rw [show Try.prog.cellsOf 3 = 1 from by kernel_rfl] at g4
  obtain ⟨a4, k4_, w4⟩ := ((opens_int Try.underlying3) : Opens enc Try.prog w 3 (Kd.int .i64) (fun a => (Lit.int .i64 a).wf = true) m) _ _ g4
  have e4 : (cs.drop 4).take 1 = [.int .i64 a4] := k4_
  have g5 : DataW.trod enc Try.prog w 0 (fun _ => true) true m 4 (List.take (Try.prog.cellsOf 4) (List.drop 5 cs)) = xs[5]? := hf 5 _ rfl
  rw [List.getElem?_eq_getElem (show 5 < xs.length by rw [hxl]; simp)] at g5
  rw [show Try.prog.cellsOf 4 = 1 from by kernel_rfl] at g5
  obtain ⟨a5, k5_, w5⟩ := ((opens_bool Try.underlying4) : Opens enc Try.prog w 4 Kd.bool (fun a => True) m) _ _ g5
  have e5 : (cs.drop 5).take 1 = [.bool a5] := k5_
  have g6 : DataW.trod enc Try.prog w 0 (fun _ => true) true m 4 (List.take (Try.prog.cellsOf 4) (List.drop 6 cs)) = xs[6]? := hf 6 _ rfl
  rw [List.getElem?_eq_getElem (show 6 < xs.length by rw [hxl]; simp)] at g6
  rw [show Try.prog.cellsOf 4 = 1 from by kernel_rfl] at g6
  obtain ⟨a6, k6_, w6⟩ := ((opens_bool Try.underlying4) : Opens enc Try.prog w 4 Kd.bool (fun a => True) m) _ _ g6
  have e6 : (cs.drop 6).take 1 = [.bool a6] := k6_
  have g7 : DataW.trod enc Try.prog w 0 (fun _ => true) true m 52 (List.take (Try.prog.cellsOf 52) (List.drop 7 cs)) = xs[7]? := hf 7 _ rfl
  rw [List.getElem?_eq_getElem (show 7 < xs.length by rw [hxl]; simp)] at g7
  rw [show Try.prog.cellsOf 52 = 1 from by kernel_rfl] at g7
  obtain ⟨a7, k7_, w7⟩ := ((opens_slice Try.underlying52 (by kernel_rfl) (fun m_ hm_ => (opens_int Try.underlying3))) : Opens enc Try.prog w 52 (Kd.slice 3 (Kd.int .i64)) (fun a => (a.length ≤ maxLen ∧ ∀ y ∈ a, (Lit.int .i64 y).wf = true)) m) _ _ g7
  obtain ⟨A7, c7, e7, l7, q7⟩ := k7_
  have g8 : DataW.trod enc Try.prog w 0 (fun _ => true) true m 4 (List.take (Try.prog.cellsOf 4) (List.drop 8 cs)) = xs[8]? := hf 8 _ rfl
  rw [List.getElem?_eq_getElem (show 8 < xs.length by rw [hxl]; simp)] at g8
  rw [show Try.prog.cellsOf 4 = 1 from by kernel_rfl] at g8
  obtain ⟨a8, k8_, w8⟩ := ((opens_bool Try.underlying4) : Opens enc Try.prog w 4 Kd.bool (fun a => True) m) _ _ g8
  have e8 : (cs.drop 8).take 1 = [.bool a8] := k8_
  have g9 : DataW.trod enc Try.prog w 0 (fun _ => true) true m 185 (List.take (Try.prog.cellsOf 185) (List.drop 9 cs)) = xs[9]? := hf 9 _ rfl
  rw [List.getElem?_eq_getElem (show 9 < xs.length by rw [hxl]; simp)] at g9
  rw [show Try.prog.cellsOf 185 = 1 from by kernel_rfl] at g9
  obtain ⟨a9, k9_, w9⟩ := ((opens_slice Try.underlying185 (by kernel_rfl) (fun m_ hm_ => (opens_L_Bind _))) : Opens enc Try.prog w 185 (Kd.slice 273 k273) (fun a => (a.length ≤ maxLen ∧ ∀ y ∈ a, Wf_L_Bind y)) m) _ _ g9
  obtain ⟨A9, c9, e9, l9, q9⟩ := k9_
  have g10 : DataW.trod enc Try.prog w 0 (fun _ => true) true m 187 (List.take (Try.prog.cellsOf 187) (List.drop 10 cs)) = xs[10]? := hf 10 _ rfl
  rw [List.getElem?_eq_getElem (show 10 < xs.length by rw [hxl]; simp)] at g10
  rw [show Try.prog.cellsOf 187 = 1 from by kernel_rfl] at g10
  obtain ⟨a10, k10_, w10⟩ := ((opens_L_Clause _) : Opens enc Try.prog w 187 k187 (fun a => Wf_L_Clause a) m) _ _ g10
  obtain ⟨A10_0, c10_0, e10, l10_0, q10_0⟩ := k187_open k10_
  have hc := (List.drop_zero (l := cs)).symm.trans ((show cs.drop 0 = (cs.drop 0).take 1 ++ cs.drop 1 from seg_split cs 0 1).trans (congrArg ((cs.drop 0).take 1 ++ ·) ((show cs.drop 1 = (cs.drop 1).take 1 ++ cs.drop 2 from seg_split cs 1 1).trans (congrArg ((cs.drop 1).take 1 ++ ·) ((show cs.drop 2 = (cs.drop 2).take 1 ++ cs.drop 3 from seg_split cs 2 1).trans (congrArg ((cs.drop 2).take 1 ++ ·) ((show cs.drop 3 = (cs.drop 3).take 1 ++ cs.drop 4 from seg_split cs 3 1).trans (congrArg ((cs.drop 3).take 1 ++ ·) ((show cs.drop 4 = (cs.drop 4).take 1 ++ cs.drop 5 from seg_split cs 4 1).trans (congrArg ((cs.drop 4).take 1 ++ ·) ((show cs.drop 5 = (cs.drop 5).take 1 ++ cs.drop 6 from seg_split cs 5 1).trans (congrArg ((cs.drop 5).take 1 ++ ·) ((show cs.drop 6 = (cs.drop 6).take 1 ++ cs.drop 7 from seg_split cs 6 1).trans (congrArg ((cs.drop 6).take 1 ++ ·) ((show cs.drop 7 = (cs.drop 7).take 1 ++ cs.drop 8 from seg_split cs 7 1).trans (congrArg ((cs.drop 7).take 1 ++ ·) ((show cs.drop 8 = (cs.drop 8).take 1 ++ cs.drop 9 from seg_split cs 8 1).trans (congrArg ((cs.drop 8).take 1 ++ ·) ((show cs.drop 9 = (cs.drop 9).take 1 ++ cs.drop 10 from seg_split cs 9 1).trans (congrArg ((cs.drop 9).take 1 ++ ·) ((show cs.drop 10 = (cs.drop 10).take 1 ++ cs.drop 11 from seg_split cs 10 1).trans (congrArg ((cs.drop 10).take 1 ++ ·) (seg_end cs 11 hl)))))))))))))))))))))))
  rw [e0, e1, e2, e3, e4, e5, e6, e7, e8, e9, e10] at hc
  simp only [List.cons_append, List.nil_append, List.append_nil] at hc
  exact ⟨⟨a0, a1, a2, a3, a4, a5, a6, a7, a8, a9, a10⟩, by rw [hc]; exact k189_mk w ⟨a0, a1, a2, a3, a4, a5, a6, a7, a8, a9, a10⟩ l7 q7 l9 q9 l10_0 q10_0, ⟨w0, w1, w2, w3, w4, w5, w6, w7, w8, w9, w10⟩⟩

/-- THE ONE PURE STATEMENT of laws_FnExactDeepOf. -/
def laws_FnExactDeepOf.Pure : Prop := ∀ (l0 : List (L_Step)) (a1 : Int), (l0.length ≤ maxLen ∧ ∀ y ∈ l0, Wf_L_Step y) → (Lit.int .i64 a1).wf = true → ∃ k, laws_FnExactDeepOf.f k l0 a1 = some true

end Go.Proofs.Ytejfjfhopapaaaa.XDeepOf
