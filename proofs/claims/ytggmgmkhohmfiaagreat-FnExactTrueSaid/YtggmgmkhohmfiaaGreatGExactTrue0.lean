import Derived.Test.YtggmgmkhohmfiaaGreatProg
import Derived.Test.YtggmgmkhohmfiaaGreatPEc
namespace Go.Proofs.YtggmgmkhohmfiaaGreat.PE
noncomputable section
open Go Go.RowKit Go.Proofs Go.WideShapes Go.ChangeShapes
set_option linter.unusedVariables false
def rd (xs : List Int) (i : Int) : Int := xs.getD i.toNat 0
def rd_Ls_i64 (xs : List (List Int)) (i : Int) : List Int := xs.getD i.toNat []
theorem bind_cg {α β : Type} {o : Option α} {f g : α → Option β} (h : ∀ x, f x = g x) : o.bind f = o.bind g := by rw [funext h]
theorem ite_ng {α : Type} {p : Prop} [Decidable p] (a b : α) : (if ¬ p then a else b) = if p then b else a := by by_cases h : p <;> simp [h]
theorem ite_nb {α : Type} (c : Bool) (a b : α) : (if (!c) = true then a else b) = if c = true then b else a := by cases c <;> rfl
def rdOf {α : Type} (z : α) (xs : List α) (i : Int) : α := xs.getD i.toNat z
structure L_Sym where
  f0 : ByteArray
  f1 : Int
  f2 : Bool
noncomputable def zL_Sym : L_Sym := ⟨⟨#[]⟩, 0, false⟩
noncomputable def rd_L_Sym (xs : List L_Sym) (i : Int) : L_Sym := xs.getD i.toNat zL_Sym
structure L_Term where
  f0 : Int
  f1 : Int
  f2 : List (L_Term)
noncomputable def zL_Term : L_Term := ⟨0, 0, []⟩
noncomputable def rd_L_Term (xs : List L_Term) (i : Int) : L_Term := xs.getD i.toNat zL_Term
structure L_Lit where
  f0 : Bool
  f1 : L_Term
  f2 : L_Term
noncomputable def zL_Lit : L_Lit := ⟨false, ⟨0, 0, []⟩, ⟨0, 0, []⟩⟩
noncomputable def rd_L_Lit (xs : List L_Lit) (i : Int) : L_Lit := xs.getD i.toNat zL_Lit
structure L_Clause where
  f0 : List (L_Lit)
noncomputable def zL_Clause : L_Clause := ⟨[]⟩
noncomputable def rd_L_Clause (xs : List L_Clause) (i : Int) : L_Clause := xs.getD i.toNat zL_Clause
structure I_Sym where
  f0 : ByteArray
  f1 : Int
  f2 : Bool
noncomputable def zI_Sym : I_Sym := ⟨⟨#[]⟩, 0, false⟩
noncomputable def rd_I_Sym (xs : List I_Sym) (i : Int) : I_Sym := xs.getD i.toNat zI_Sym
structure I_Term where
  f0 : Int
  f1 : Int
  f2 : List (I_Term)
noncomputable def zI_Term : I_Term := ⟨0, 0, []⟩
noncomputable def rd_I_Term (xs : List I_Term) (i : Int) : I_Term := xs.getD i.toNat zI_Term
structure I_Lit where
  f0 : Bool
  f1 : I_Term
  f2 : I_Term
noncomputable def zI_Lit : I_Lit := ⟨false, ⟨0, 0, []⟩, ⟨0, 0, []⟩⟩
noncomputable def rd_I_Lit (xs : List I_Lit) (i : Int) : I_Lit := xs.getD i.toNat zI_Lit
structure I_Clause where
  f0 : List (I_Lit)
noncomputable def zI_Clause : I_Clause := ⟨[]⟩
noncomputable def rd_I_Clause (xs : List I_Clause) (i : Int) : I_Clause := xs.getD i.toNat zI_Clause
structure L_World where
  f0 : Int
  f1 : List (List (Int))
noncomputable def zL_World : L_World := ⟨0, []⟩
noncomputable def rd_L_World (xs : List L_World) (i : Int) : L_World := xs.getD i.toNat zL_World
structure I_World where
  f0 : Int
  f1 : List (List (Int))
noncomputable def zI_World : I_World := ⟨0, []⟩
noncomputable def rd_I_World (xs : List I_World) (i : Int) : I_World := xs.getD i.toNat zI_World
structure A2_i64 where
  f0 : Int
  f1 : Int
noncomputable def zA2_i64 : A2_i64 := ⟨0, 0⟩
noncomputable def rd_A2_i64 (xs : List A2_i64) (i : Int) : A2_i64 := xs.getD i.toNat zA2_i64
structure TyZ where
  α : Type
  z : α
noncomputable def T0 : Nat → TyZ
  | 0 => ⟨L_Sym, zL_Sym⟩
  | 1 => ⟨L_Term, zL_Term⟩
  | 2 => ⟨L_Lit, zL_Lit⟩
  | 3 => ⟨L_Clause, zL_Clause⟩
  | 4 => ⟨I_Sym, zI_Sym⟩
  | 5 => ⟨I_Term, zI_Term⟩
  | 6 => ⟨I_Lit, zI_Lit⟩
  | 7 => ⟨I_Clause, zI_Clause⟩
  | 8 => ⟨L_World, zL_World⟩
  | 9 => ⟨I_World, zI_World⟩
  | 10 => ⟨A2_i64, zA2_i64⟩
  | _ + 11 => ⟨Unit, ()⟩
noncomputable def ST (s : Nat) : Type := (T0 s).α
noncomputable def cellsS : (s : Nat) → ST s → List (Dyn ST)
  | 0 => fun (x : L_Sym) => [.str x.f0, .int .i64 x.f1, .bool x.f2]
  | 1 => fun (x : L_Term) => [.int .i64 x.f0, .int .i64 x.f1, .lst (.st 1) x.f2]
  | 2 => fun (x : L_Lit) => [.bool x.f0, .int .i64 x.f1.f0, .int .i64 x.f1.f1, .lst (.st 1) x.f1.f2, .int .i64 x.f2.f0, .int .i64 x.f2.f1, .lst (.st 1) x.f2.f2]
  | 3 => fun (x : L_Clause) => [.lst (.st 2) x.f0]
  | 4 => fun (x : I_Sym) => [.str x.f0, .int .i64 x.f1, .bool x.f2]
  | 5 => fun (x : I_Term) => [.int .i64 x.f0, .int .i64 x.f1, .lst (.st 5) x.f2]
  | 6 => fun (x : I_Lit) => [.bool x.f0, .int .i64 x.f1.f0, .int .i64 x.f1.f1, .lst (.st 5) x.f1.f2, .int .i64 x.f2.f0, .int .i64 x.f2.f1, .lst (.st 5) x.f2.f2]
  | 7 => fun (x : I_Clause) => [.lst (.st 6) x.f0]
  | 8 => fun (x : L_World) => [.int .i64 x.f0, .lst (.lst (.int .i64)) x.f1]
  | 9 => fun (x : I_World) => [.int .i64 x.f0, .lst (.lst (.int .i64)) x.f1]
  | 10 => fun (x : A2_i64) => [.int .i64 x.f0, .int .i64 x.f1]
  | _ + 11 => fun _ => []
noncomputable def mkS : (s : Nat) → List (Dyn ST) → Option (ST s)
  | 0 => fun l => match l with | [.str c0, .int .i64 c1, .bool c2] => some (⟨c0, c1, c2⟩ : L_Sym) | _ => none
  | 1 => fun l => match l with | [.int .i64 c0, .int .i64 c1, .lst e2 c2] => (match toL ST e2 (.st 1) c2 with | some d2 => some (⟨c0, c1, d2⟩ : L_Term) | none => none) | _ => none
  | 2 => fun l => match l with | [.bool c0, .int .i64 c1, .int .i64 c2, .lst e3 c3, .int .i64 c4, .int .i64 c5, .lst e6 c6] => (match toL ST e3 (.st 1) c3 with | some d3 => (match toL ST e6 (.st 1) c6 with | some d6 => some (⟨c0, ⟨c1, c2, d3⟩, ⟨c4, c5, d6⟩⟩ : L_Lit) | none => none) | none => none) | _ => none
  | 3 => fun l => match l with | [.lst e0 c0] => (match toL ST e0 (.st 2) c0 with | some d0 => some (⟨d0⟩ : L_Clause) | none => none) | _ => none
  | 4 => fun l => match l with | [.str c0, .int .i64 c1, .bool c2] => some (⟨c0, c1, c2⟩ : I_Sym) | _ => none
  | 5 => fun l => match l with | [.int .i64 c0, .int .i64 c1, .lst e2 c2] => (match toL ST e2 (.st 5) c2 with | some d2 => some (⟨c0, c1, d2⟩ : I_Term) | none => none) | _ => none
  | 6 => fun l => match l with | [.bool c0, .int .i64 c1, .int .i64 c2, .lst e3 c3, .int .i64 c4, .int .i64 c5, .lst e6 c6] => (match toL ST e3 (.st 5) c3 with | some d3 => (match toL ST e6 (.st 5) c6 with | some d6 => some (⟨c0, ⟨c1, c2, d3⟩, ⟨c4, c5, d6⟩⟩ : I_Lit) | none => none) | none => none) | _ => none
  | 7 => fun l => match l with | [.lst e0 c0] => (match toL ST e0 (.st 6) c0 with | some d0 => some (⟨d0⟩ : I_Clause) | none => none) | _ => none
  | 8 => fun l => match l with | [.int .i64 c0, .lst e1 c1] => (match toL ST e1 (.lst (.int .i64)) c1 with | some d1 => some (⟨c0, d1⟩ : L_World) | none => none) | _ => none
  | 9 => fun l => match l with | [.int .i64 c0, .lst e1 c1] => (match toL ST e1 (.lst (.int .i64)) c1 with | some d1 => some (⟨c0, d1⟩ : I_World) | none => none) | _ => none
  | 10 => fun l => match l with | [.int .i64 c0, .int .i64 c1] => some (⟨c0, c1⟩ : A2_i64) | _ => none
  | _ + 11 => fun _ => none
noncomputable def szS_ : Nat → Nat
  | 0 => 3
  | 1 => 3
  | 2 => 7
  | 3 => 1
  | 4 => 3
  | 5 => 3
  | 6 => 7
  | 7 => 1
  | 8 => 2
  | 9 => 2
  | 10 => 2
  | _ + 11 => 0
noncomputable def etys : List (Nat × E) := [(3, .int .i64), (4, .bool), (5, .int .u8), (9, .str), (22, .lst (.st 0)), (23, .lst (.lst (.int .i64))), (26, .lst (.st 2)), (28, .st 3), (33, .lst (.st 4)), (37, .lst (.st 6)), (39, .st 7), (46, .st 8), (49, .st 9), (59, .lst (.int .i64)), (62, .lst (.st 5)), (64, .st 5), (66, .st 6), (120, .st 0), (124, .st 4), (202, .lst (.st 1)), (204, .st 1), (206, .st 2), (248, .st 10), (249, .lst (.st 10))]
noncomputable def lays : List (Nat × Nat) := [(3, 1), (4, 1), (5, 1), (9, 1), (22, 1), (23, 1), (26, 1), (28, 3), (33, 1), (37, 1), (39, 3), (46, 4), (49, 4), (59, 1), (62, 1), (64, 5), (66, 9), (120, 5), (124, 5), (202, 1), (204, 5), (206, 9), (248, 4), (249, 1)]
noncomputable def flds : List (Nat × List Nat) := [(28, [0]), (39, [0]), (46, [0, 1]), (49, [0, 1]), (64, [0, 1, 2]), (66, [0, 1, 4]), (120, [0, 1, 2]), (124, [0, 1, 2]), (204, [0, 1, 2]), (206, [0, 1, 4])]
noncomputable def plcs : List (Nat × List (Nat × Nat)) := [(28, [(0, 1)]), (39, [(0, 1)]), (46, [(0, 1), (1, 1)]), (49, [(0, 1), (1, 1)]), (64, [(0, 1), (1, 1), (2, 1)]), (66, [(0, 1), (1, 3), (4, 3)]), (120, [(0, 1), (1, 1), (2, 1)]), (124, [(0, 1), (1, 1), (2, 1)]), (204, [(0, 1), (1, 1), (2, 1)]), (206, [(0, 1), (1, 3), (4, 3)]), (248, [(0, 1), (1, 1)])]
noncomputable def eqts : List (Nat × List E) := [(120, [.str, .int .i64, .bool]), (124, [.str, .int .i64, .bool])]
noncomputable def arrs : List Nat := [248]
@[reducible] noncomputable def maxRow : Nat := 1599289640401
@[reducible] noncomputable def TT : Tbl := mkT ST (fun s => (T0 s).z) cellsS mkS szS_ etys lays flds plcs eqts arrs maxRow
theorem cells_len_ : (s : Nat) → (x : ST s) → (cellsS s x).length = szS_ s
  | 0, _ => rfl
  | 1, _ => rfl
  | 2, _ => rfl
  | 3, _ => rfl
  | 4, _ => rfl
  | 5, _ => rfl
  | 6, _ => rfl
  | 7, _ => rfl
  | 8, _ => rfl
  | 9, _ => rfl
  | 10, _ => rfl
  | _ + 11, _ => rfl
theorem mk_cells_ : (s : Nat) → (l : List (Dyn ST)) → (x : ST s) → mkS s l = some x → DLes (T := TT) l (cellsS s x)
  | 0, l, x, h => by
    simp only [mkS] at h
    repeat' (split at h)
    all_goals first | (cases h; done) | (obtain rfl := Option.some.inj h; repeat' first | exact DLes.nil | refine DLes.cons ?_ ?_ | exact Or.inl rfl | exact toL_ok (T := TT) (by assumption))
  | 1, l, x, h => by
    simp only [mkS] at h
    repeat' (split at h)
    all_goals first | (cases h; done) | (obtain rfl := Option.some.inj h; repeat' first | exact DLes.nil | refine DLes.cons ?_ ?_ | exact Or.inl rfl | exact toL_ok (T := TT) (by assumption))
  | 2, l, x, h => by
    simp only [mkS] at h
    repeat' (split at h)
    all_goals first | (cases h; done) | (obtain rfl := Option.some.inj h; repeat' first | exact DLes.nil | refine DLes.cons ?_ ?_ | exact Or.inl rfl | exact toL_ok (T := TT) (by assumption))
  | 3, l, x, h => by
    simp only [mkS] at h
    repeat' (split at h)
    all_goals first | (cases h; done) | (obtain rfl := Option.some.inj h; repeat' first | exact DLes.nil | refine DLes.cons ?_ ?_ | exact Or.inl rfl | exact toL_ok (T := TT) (by assumption))
  | 4, l, x, h => by
    simp only [mkS] at h
    repeat' (split at h)
    all_goals first | (cases h; done) | (obtain rfl := Option.some.inj h; repeat' first | exact DLes.nil | refine DLes.cons ?_ ?_ | exact Or.inl rfl | exact toL_ok (T := TT) (by assumption))
  | 5, l, x, h => by
    simp only [mkS] at h
    repeat' (split at h)
    all_goals first | (cases h; done) | (obtain rfl := Option.some.inj h; repeat' first | exact DLes.nil | refine DLes.cons ?_ ?_ | exact Or.inl rfl | exact toL_ok (T := TT) (by assumption))
  | 6, l, x, h => by
    simp only [mkS] at h
    repeat' (split at h)
    all_goals first | (cases h; done) | (obtain rfl := Option.some.inj h; repeat' first | exact DLes.nil | refine DLes.cons ?_ ?_ | exact Or.inl rfl | exact toL_ok (T := TT) (by assumption))
  | 7, l, x, h => by
    simp only [mkS] at h
    repeat' (split at h)
    all_goals first | (cases h; done) | (obtain rfl := Option.some.inj h; repeat' first | exact DLes.nil | refine DLes.cons ?_ ?_ | exact Or.inl rfl | exact toL_ok (T := TT) (by assumption))
  | 8, l, x, h => by
    simp only [mkS] at h
    repeat' (split at h)
    all_goals first | (cases h; done) | (obtain rfl := Option.some.inj h; repeat' first | exact DLes.nil | refine DLes.cons ?_ ?_ | exact Or.inl rfl | exact toL_ok (T := TT) (by assumption))
  | 9, l, x, h => by
    simp only [mkS] at h
    repeat' (split at h)
    all_goals first | (cases h; done) | (obtain rfl := Option.some.inj h; repeat' first | exact DLes.nil | refine DLes.cons ?_ ?_ | exact Or.inl rfl | exact toL_ok (T := TT) (by assumption))
  | 10, l, x, h => by
    simp only [mkS] at h
    repeat' (split at h)
    all_goals first | (cases h; done) | (obtain rfl := Option.some.inj h; repeat' first | exact DLes.nil | refine DLes.cons ?_ ?_ | exact Or.inl rfl | exact toL_ok (T := TT) (by assumption))
  | _ + 11, _, _, h => by cases h
theorem tbl : TblOk Tryz.prog TT := tbl_ok (by kernel_rfl) (by kernel_rfl) (by kernel_rfl) (by kernel_rfl) (by kernel_rfl) (by kernel_rfl) cells_len_ mk_cells_
theorem mixed : Tryz.prog.follows .mixedOrders = true := by kernel_rfl
noncomputable def laws_szSym.f (a0_0 : ByteArray) (a0_1 : Int) (a0_2 : Bool) (a1 : Int) : Option (Int) := if (wrap64 (a1 - (a0_0.size : Int))) < 0 then (some (-1)) else (some (wrap64 (a1 - (a0_0.size : Int))))
@[reducible] noncomputable def laws_szSym.us : List (CutU TT (TupT ST [.int .i64])) := []
noncomputable def laws_szSym.ent : Ent TT := ⟨92, [.agg 3, .one], [.str, .int .i64, .bool, .int .i64], .one, [.int .i64], fun x => laws_szSym.f x.1 x.2.1 x.2.2.1 x.2.2.2⟩
noncomputable def laws_szSym.ents (k : Nat) : Ents TT := ⟨[], []⟩
noncomputable def laws_szSym.raw (k : Nat) (a0_0 : ByteArray) (a0_1 : Int) (a0_2 : Bool) (a1 : Int) : Option (Int) := if (wr .i64 (a1 - (a0_0.size : Int))) < 0 then (some (-1)) else (some (wr .i64 (a1 - (a0_0.size : Int))))
theorem laws_szSym.clean (k : Nat) (a0_0 : ByteArray) (a0_1 : Int) (a0_2 : Bool) (a1 : Int) : laws_szSym.raw k a0_0 a0_1 a0_2 a1 = laws_szSym.f a0_0 a0_1 a0_2 a1 := by
  rw [laws_szSym.raw, laws_szSym.f]
  simp only [wr_i64]
theorem laws_szSym.chk (k : Nat) (x : TupT ST [.str, .int .i64, .bool, .int .i64]) : runU TT (calOf (laws_szSym.ents k)) (jmps laws_szSym.us k) (finK Tryz.f92 (retK TT (.one) [.int .i64])) Tryz.f92 none (canon (args0 0 (argL [.agg 3, .one] [.str, .int .i64, .bool, .int .i64] x)) []) = laws_szSym.f x.1 x.2.1 x.2.2.1 x.2.2.2 := Eq.trans (show _ = laws_szSym.raw k x.1 x.2.1 x.2.2.1 x.2.2.2 by kernel_rfl) (laws_szSym.clean k x.1 x.2.1 x.2.2.1 x.2.2.2)
theorem laws_szSym.ok : EntOk Tryz.prog TT (laws_szSym.ent) :=
  fun_of tbl mixed 92 Tryz.f92 Tryz.func92 rfl (by kernel_rfl) [.agg 3, .one] [.str, .int .i64, .bool, .int .i64] (.one) [.int .i64] (by kernel_rfl) laws_szSym.ents laws_szSym.us True.intro True.intro (fun k (x : TupT ST [.str, .int .i64, .bool, .int .i64]) => laws_szSym.f x.1 x.2.1 x.2.2.1 x.2.2.2) laws_szSym.chk (fun k => EntsOk.mk True.intro True.intro) 0
noncomputable def laws_szSymS.l0 : Nat → List (L_Sym) → Int → Int → Option (Int)
  | 0, _, _, _ => none
  | k + 1, x0, x1, x5 => if x5 < (x0.length : Int) then (if 0 ≤ x5 then ((laws_szSym.f ((rd_L_Sym x0 x5).f0) ((rd_L_Sym x0 x5).f1) ((rd_L_Sym x0 x5).f2) x1).bind fun t1 => (if t1 < 0 then (some (-1)) else (laws_szSymS.l0 k x0 t1 (wrap64 (x5 + 1))))) else none) else (some x1)
noncomputable def laws_szSymS.f (k : Nat) (l0 : List (L_Sym)) (a1 : Int) : Option (Int) := if (wrap64 (a1 - (l0.length : Int))) < 0 then (some (-1)) else (laws_szSymS.l0 k l0 (wrap64 (a1 - (l0.length : Int))) 0)
noncomputable def laws_szSymS.l0.c : Cut := ⟨[0], [], [(0, .one), (1, .one), (5, .one)], [], [], [.lst (.st 0), .int .i64, .int .i64]⟩
@[reducible] noncomputable def laws_szSymS.us : List (CutU TT (TupT ST [.int .i64])) := [⟨5, laws_szSymS.l0.c, fun k x => laws_szSymS.l0 k x.1 x.2.1 x.2.2⟩]
noncomputable def laws_szSymS.ent (k : Nat) : Ent TT := ⟨15, [.one, .one], [.lst (.st 0), .int .i64], .one, [.int .i64], fun x => laws_szSymS.f k x.1 x.2⟩
noncomputable def laws_szSymS.ents (k : Nat) : Ents TT := ⟨[laws_szSym.ent], []⟩
noncomputable def laws_szSymS.l0.raw (k : Nat) (x0 : List (L_Sym)) (x1 : Int) (x5 : Int) : Option (Int) := if x5 < (x0.length : Int) then (if 0 ≤ x5 then (if x5 < (x0.length : Int) then ((laws_szSym.f ((rd_L_Sym x0 x5).f0) ((rd_L_Sym x0 x5).f1) ((rd_L_Sym x0 x5).f2) x1).bind fun t1 => (if t1 < 0 then (some (-1)) else (laws_szSymS.l0 k x0 t1 (wr .i64 (x5 + 1))))) else none) else none) else (some x1)
theorem laws_szSymS.l0.clean (k : Nat) (x0 : List (L_Sym)) (x1 : Int) (x5 : Int) : laws_szSymS.l0.raw k x0 x1 x5 = laws_szSymS.l0 (k + 1) x0 x1 x5 := by
  rw [laws_szSymS.l0.raw, laws_szSymS.l0]
  simp only [wr_i64]
  exact ite_congr rfl (fun h0 => ite_congr rfl (fun h1 => if_pos h0) (fun h1 => rfl)) (fun h0 => rfl)
theorem laws_szSymS.l0.chk (k : Nat) (x : TupT ST [.lst (.st 0), .int .i64, .int .i64]) : runU TT (calOf (laws_szSymS.ents k)) (jmps laws_szSymS.us k) (finK Tryz.f15 (retK TT (.one) [.int .i64])) Tryz.f15 (some 5) (canonC laws_szSymS.l0.c x) = laws_szSymS.l0 (k + 1) x.1 x.2.1 x.2.2 := Eq.trans (show _ = laws_szSymS.l0.raw k x.1 x.2.1 x.2.2 by kernel_rfl) (laws_szSymS.l0.clean k x.1 x.2.1 x.2.2)
noncomputable def laws_szSymS.raw (k : Nat) (l0 : List (L_Sym)) (a1 : Int) : Option (Int) := if (wr .i64 (a1 - (l0.length : Int))) < 0 then (some (-1)) else (laws_szSymS.l0 k l0 (wr .i64 (a1 - (l0.length : Int))) 0)
theorem laws_szSymS.clean (k : Nat) (l0 : List (L_Sym)) (a1 : Int) : laws_szSymS.raw k l0 a1 = laws_szSymS.f k l0 a1 := by
  rw [laws_szSymS.raw, laws_szSymS.f]
  simp only [wr_i64]
theorem laws_szSymS.chk (k : Nat) (x : TupT ST [.lst (.st 0), .int .i64]) : runU TT (calOf (laws_szSymS.ents k)) (jmps laws_szSymS.us k) (finK Tryz.f15 (retK TT (.one) [.int .i64])) Tryz.f15 none (canon (args0 0 (argL [.one, .one] [.lst (.st 0), .int .i64] x)) []) = laws_szSymS.f k x.1 x.2 := Eq.trans (show _ = laws_szSymS.raw k x.1 x.2 by kernel_rfl) (laws_szSymS.clean k x.1 x.2)
theorem laws_szSymS.ok (k : Nat) : EntOk Tryz.prog TT (laws_szSymS.ent k) :=
  fun_of tbl mixed 15 Tryz.f15 Tryz.func15 rfl (by kernel_rfl) [.one, .one] [.lst (.st 0), .int .i64] (.one) [.int .i64] (by kernel_rfl) laws_szSymS.ents laws_szSymS.us (And.intro (fun _ => rfl) True.intro) (And.intro laws_szSymS.l0.chk True.intro) (fun k (x : TupT ST [.lst (.st 0), .int .i64]) => laws_szSymS.f k x.1 x.2) laws_szSymS.chk (fun k => EntsOk.mk (And.intro laws_szSym.ok True.intro) True.intro) k
mutual
noncomputable def laws_szTermS.l0 : Nat → List (L_Term) → Int → Int → Option (Int)
  | 0, _, _, _ => none
  | k + 1, x0, x1, x5 => if x5 < (x0.length : Int) then (if 0 ≤ x5 then ((laws_szTerm.f k ((rd_L_Term x0 x5).f0) ((rd_L_Term x0 x5).f1) ((rd_L_Term x0 x5).f2) x1).bind fun t1 => (if t1 < 0 then (some (-1)) else (laws_szTermS.l0 k x0 t1 (wrap64 (x5 + 1))))) else none) else (some x1)
noncomputable def laws_szTermS.f : Nat → List (L_Term) → Int → Option (Int)
  | 0, _, _ => none
  | k + 1, l0, a1 => if (wrap64 (a1 - (l0.length : Int))) < 0 then (some (-1)) else (laws_szTermS.l0 k l0 (wrap64 (a1 - (l0.length : Int))) 0)
noncomputable def laws_szTerm.f : Nat → Int → Int → List (L_Term) → Int → Option (Int)
  | 0, _, _, _, _ => none
  | k + 1, a0_0, a0_1, l0_2, a1 => (laws_szTermS.f k l0_2 a1).bind fun t1 => (if t1 < 0 then (some (-1)) else (some t1))
end
noncomputable def laws_szTermS.ent (k : Nat) : Ent TT := ⟨296, [.one, .one], [.lst (.st 1), .int .i64], .one, [.int .i64], fun x => laws_szTermS.f k x.1 x.2⟩
noncomputable def laws_szTerm.ent (k : Nat) : Ent TT := ⟨277, [.agg 3, .one], [.int .i64, .int .i64, .lst (.st 1), .int .i64], .one, [.int .i64], fun x => laws_szTerm.f k x.1 x.2.1 x.2.2.1 x.2.2.2⟩
noncomputable def laws_szTermS.l0.c : Cut := ⟨[0], [], [(0, .one), (1, .one), (5, .one)], [], [], [.lst (.st 1), .int .i64, .int .i64]⟩
@[reducible] noncomputable def laws_szTermS.us : List (CutU TT (TupT ST [.int .i64])) := [⟨5, laws_szTermS.l0.c, fun k x => laws_szTermS.l0 k x.1 x.2.1 x.2.2⟩]
noncomputable def laws_szTermS.ents (k : Nat) : Ents TT := ⟨[laws_szTerm.ent k], []⟩
noncomputable def laws_szTermS.l0.raw (k : Nat) (x0 : List (L_Term)) (x1 : Int) (x5 : Int) : Option (Int) := if x5 < (x0.length : Int) then (if 0 ≤ x5 then (if x5 < (x0.length : Int) then ((laws_szTerm.f k ((rd_L_Term x0 x5).f0) ((rd_L_Term x0 x5).f1) ((rd_L_Term x0 x5).f2) x1).bind fun t1 => (if t1 < 0 then (some (-1)) else (laws_szTermS.l0 k x0 t1 (wr .i64 (x5 + 1))))) else none) else none) else (some x1)
theorem laws_szTermS.l0.clean (k : Nat) (x0 : List (L_Term)) (x1 : Int) (x5 : Int) : laws_szTermS.l0.raw k x0 x1 x5 = laws_szTermS.l0 (k + 1) x0 x1 x5 := by
  rw [laws_szTermS.l0.raw, laws_szTermS.l0]
  simp only [wr_i64]
  exact ite_congr rfl (fun h0 => ite_congr rfl (fun h1 => if_pos h0) (fun h1 => rfl)) (fun h0 => rfl)
theorem laws_szTermS.l0.chk (k : Nat) (x : TupT ST [.lst (.st 1), .int .i64, .int .i64]) : runU TT (calOf (laws_szTermS.ents k)) (jmps laws_szTermS.us k) (finK Tryz.f296 (retK TT (.one) [.int .i64])) Tryz.f296 (some 5) (canonC laws_szTermS.l0.c x) = laws_szTermS.l0 (k + 1) x.1 x.2.1 x.2.2 := Eq.trans (show _ = laws_szTermS.l0.raw k x.1 x.2.1 x.2.2 by kernel_rfl) (laws_szTermS.l0.clean k x.1 x.2.1 x.2.2)
noncomputable def laws_szTermS.raw (k : Nat) (l0 : List (L_Term)) (a1 : Int) : Option (Int) := if (wr .i64 (a1 - (l0.length : Int))) < 0 then (some (-1)) else (laws_szTermS.l0 k l0 (wr .i64 (a1 - (l0.length : Int))) 0)
theorem laws_szTermS.clean (k : Nat) (l0 : List (L_Term)) (a1 : Int) : laws_szTermS.raw k l0 a1 = laws_szTermS.f (k + 1) l0 a1 := by
  rw [laws_szTermS.raw, laws_szTermS.f]
  simp only [wr_i64]
theorem laws_szTermS.chk (k : Nat) (x : TupT ST [.lst (.st 1), .int .i64]) : runU TT (calOf (laws_szTermS.ents k)) (jmps laws_szTermS.us k) (finK Tryz.f296 (retK TT (.one) [.int .i64])) Tryz.f296 none (canon (args0 0 (argL [.one, .one] [.lst (.st 1), .int .i64] x)) []) = laws_szTermS.f (k + 1) x.1 x.2 := Eq.trans (show _ = laws_szTermS.raw k x.1 x.2 by kernel_rfl) (laws_szTermS.clean k x.1 x.2)
@[reducible] noncomputable def laws_szTerm.us : List (CutU TT (TupT ST [.int .i64])) := []
noncomputable def laws_szTerm.ents (k : Nat) : Ents TT := ⟨[laws_szTermS.ent k], []⟩
theorem laws_szTerm.chk (k : Nat) (x : TupT ST [.int .i64, .int .i64, .lst (.st 1), .int .i64]) : runU TT (calOf (laws_szTerm.ents k)) (jmps laws_szTerm.us k) (finK Tryz.f277 (retK TT (.one) [.int .i64])) Tryz.f277 none (canon (args0 0 (argL [.agg 3, .one] [.int .i64, .int .i64, .lst (.st 1), .int .i64] x)) []) = laws_szTerm.f (k + 1) x.1 x.2.1 x.2.2.1 x.2.2.2 := by kernel_rfl
theorem laws_szTermS.grp : ∀ k : Nat, EachU (EntOk Tryz.prog TT) [laws_szTermS.ent k, laws_szTerm.ent k] ∧ EachU (Ent2Ok Tryz.prog TT) [] := by
  intro k
  induction k using Nat.strongRecOn with
  | ind k ih =>
    exact And.intro (And.intro (fun_in tbl mixed 296 Tryz.f296 Tryz.func296 rfl (by kernel_rfl) [.one, .one] [.lst (.st 1), .int .i64] (.one) [.int .i64] (by kernel_rfl) laws_szTermS.ents laws_szTermS.us (And.intro (fun _ => rfl) True.intro) (And.intro laws_szTermS.l0.chk True.intro) (fun k (x : TupT ST [.lst (.st 1), .int .i64]) => laws_szTermS.f k x.1 x.2) (fun _ => rfl) laws_szTermS.chk k (fun j h => EntsOk.mk (And.intro (ih j h).1.2.1 True.intro) True.intro)) (And.intro (fun_in tbl mixed 277 Tryz.f277 Tryz.func277 rfl (by kernel_rfl) [.agg 3, .one] [.int .i64, .int .i64, .lst (.st 1), .int .i64] (.one) [.int .i64] (by kernel_rfl) laws_szTerm.ents laws_szTerm.us True.intro True.intro (fun k (x : TupT ST [.int .i64, .int .i64, .lst (.st 1), .int .i64]) => laws_szTerm.f k x.1 x.2.1 x.2.2.1 x.2.2.2) (fun _ => rfl) laws_szTerm.chk k (fun j h => EntsOk.mk (And.intro (ih j h).1.1 True.intro) True.intro)) True.intro)) True.intro
theorem laws_szTermS.ok (k : Nat) : EntOk Tryz.prog TT (laws_szTermS.ent k) := (laws_szTermS.grp k).1.1
theorem laws_szTerm.ok (k : Nat) : EntOk Tryz.prog TT (laws_szTerm.ent k) := (laws_szTermS.grp k).1.2.1
noncomputable def laws_szLit.f (k : Nat) (a0_0 : Bool) (a0_1 : Int) (a0_2 : Int) (l0_3 : List (L_Term)) (a0_4 : Int) (a0_5 : Int) (l0_6 : List (L_Term)) (a1 : Int) : Option (Int) := (laws_szTerm.f k a0_1 a0_2 l0_3 a1).bind fun t1 => (if t1 < 0 then (some (-1)) else ((laws_szTerm.f k a0_4 a0_5 l0_6 t1).bind fun t2 => (if t2 < 0 then (some (-1)) else (some t2))))
@[reducible] noncomputable def laws_szLit.us : List (CutU TT (TupT ST [.int .i64])) := []
noncomputable def laws_szLit.ent (k : Nat) : Ent TT := ⟨219, [.agg 7, .one], [.bool, .int .i64, .int .i64, .lst (.st 1), .int .i64, .int .i64, .lst (.st 1), .int .i64], .one, [.int .i64], fun x => laws_szLit.f k x.1 x.2.1 x.2.2.1 x.2.2.2.1 x.2.2.2.2.1 x.2.2.2.2.2.1 x.2.2.2.2.2.2.1 x.2.2.2.2.2.2.2⟩
noncomputable def laws_szLit.ents (k : Nat) : Ents TT := ⟨[laws_szTerm.ent k], []⟩
theorem laws_szLit.chk (k : Nat) (x : TupT ST [.bool, .int .i64, .int .i64, .lst (.st 1), .int .i64, .int .i64, .lst (.st 1), .int .i64]) : runU TT (calOf (laws_szLit.ents k)) (jmps laws_szLit.us k) (finK Tryz.f219 (retK TT (.one) [.int .i64])) Tryz.f219 none (canon (args0 0 (argL [.agg 7, .one] [.bool, .int .i64, .int .i64, .lst (.st 1), .int .i64, .int .i64, .lst (.st 1), .int .i64] x)) []) = laws_szLit.f k x.1 x.2.1 x.2.2.1 x.2.2.2.1 x.2.2.2.2.1 x.2.2.2.2.2.1 x.2.2.2.2.2.2.1 x.2.2.2.2.2.2.2 := by kernel_rfl
theorem laws_szLit.ok (k : Nat) : EntOk Tryz.prog TT (laws_szLit.ent k) :=
  fun_of tbl mixed 219 Tryz.f219 Tryz.func219 rfl (by kernel_rfl) [.agg 7, .one] [.bool, .int .i64, .int .i64, .lst (.st 1), .int .i64, .int .i64, .lst (.st 1), .int .i64] (.one) [.int .i64] (by kernel_rfl) laws_szLit.ents laws_szLit.us True.intro True.intro (fun k (x : TupT ST [.bool, .int .i64, .int .i64, .lst (.st 1), .int .i64, .int .i64, .lst (.st 1), .int .i64]) => laws_szLit.f k x.1 x.2.1 x.2.2.1 x.2.2.2.1 x.2.2.2.2.1 x.2.2.2.2.2.1 x.2.2.2.2.2.2.1 x.2.2.2.2.2.2.2) laws_szLit.chk (fun k => EntsOk.mk (And.intro (laws_szTerm.ok k) True.intro) True.intro) k
noncomputable def laws_szLitS.l0 : Nat → List (L_Lit) → Int → Int → Option (Int)
  | 0, _, _, _ => none
  | k + 1, x0, x1, x5 => if x5 < (x0.length : Int) then (if 0 ≤ x5 then ((laws_szLit.f k ((rd_L_Lit x0 x5).f0) ((rd_L_Lit x0 x5).f1.f0) ((rd_L_Lit x0 x5).f1.f1) ((rd_L_Lit x0 x5).f1.f2) ((rd_L_Lit x0 x5).f2.f0) ((rd_L_Lit x0 x5).f2.f1) ((rd_L_Lit x0 x5).f2.f2) x1).bind fun t1 => (if t1 < 0 then (some (-1)) else (laws_szLitS.l0 k x0 t1 (wrap64 (x5 + 1))))) else none) else (some x1)
noncomputable def laws_szLitS.f (k : Nat) (l0 : List (L_Lit)) (a1 : Int) : Option (Int) := if (wrap64 (a1 - (l0.length : Int))) < 0 then (some (-1)) else (laws_szLitS.l0 k l0 (wrap64 (a1 - (l0.length : Int))) 0)
noncomputable def laws_szLitS.l0.c : Cut := ⟨[0], [], [(0, .one), (1, .one), (5, .one)], [], [], [.lst (.st 2), .int .i64, .int .i64]⟩
@[reducible] noncomputable def laws_szLitS.us : List (CutU TT (TupT ST [.int .i64])) := [⟨5, laws_szLitS.l0.c, fun k x => laws_szLitS.l0 k x.1 x.2.1 x.2.2⟩]
noncomputable def laws_szLitS.ent (k : Nat) : Ent TT := ⟨94, [.one, .one], [.lst (.st 2), .int .i64], .one, [.int .i64], fun x => laws_szLitS.f k x.1 x.2⟩
noncomputable def laws_szLitS.ents (k : Nat) : Ents TT := ⟨[laws_szLit.ent k], []⟩
noncomputable def laws_szLitS.l0.raw (k : Nat) (x0 : List (L_Lit)) (x1 : Int) (x5 : Int) : Option (Int) := if x5 < (x0.length : Int) then (if 0 ≤ x5 then (if x5 < (x0.length : Int) then ((laws_szLit.f k ((rd_L_Lit x0 x5).f0) ((rd_L_Lit x0 x5).f1.f0) ((rd_L_Lit x0 x5).f1.f1) ((rd_L_Lit x0 x5).f1.f2) ((rd_L_Lit x0 x5).f2.f0) ((rd_L_Lit x0 x5).f2.f1) ((rd_L_Lit x0 x5).f2.f2) x1).bind fun t1 => (if t1 < 0 then (some (-1)) else (laws_szLitS.l0 k x0 t1 (wr .i64 (x5 + 1))))) else none) else none) else (some x1)
theorem laws_szLitS.l0.clean (k : Nat) (x0 : List (L_Lit)) (x1 : Int) (x5 : Int) : laws_szLitS.l0.raw k x0 x1 x5 = laws_szLitS.l0 (k + 1) x0 x1 x5 := by
  rw [laws_szLitS.l0.raw, laws_szLitS.l0]
  simp only [wr_i64]
  exact ite_congr rfl (fun h0 => ite_congr rfl (fun h1 => if_pos h0) (fun h1 => rfl)) (fun h0 => rfl)
theorem laws_szLitS.l0.chk (k : Nat) (x : TupT ST [.lst (.st 2), .int .i64, .int .i64]) : runU TT (calOf (laws_szLitS.ents k)) (jmps laws_szLitS.us k) (finK Tryz.f94 (retK TT (.one) [.int .i64])) Tryz.f94 (some 5) (canonC laws_szLitS.l0.c x) = laws_szLitS.l0 (k + 1) x.1 x.2.1 x.2.2 := Eq.trans (show _ = laws_szLitS.l0.raw k x.1 x.2.1 x.2.2 by kernel_rfl) (laws_szLitS.l0.clean k x.1 x.2.1 x.2.2)
noncomputable def laws_szLitS.raw (k : Nat) (l0 : List (L_Lit)) (a1 : Int) : Option (Int) := if (wr .i64 (a1 - (l0.length : Int))) < 0 then (some (-1)) else (laws_szLitS.l0 k l0 (wr .i64 (a1 - (l0.length : Int))) 0)
theorem laws_szLitS.clean (k : Nat) (l0 : List (L_Lit)) (a1 : Int) : laws_szLitS.raw k l0 a1 = laws_szLitS.f k l0 a1 := by
  rw [laws_szLitS.raw, laws_szLitS.f]
  simp only [wr_i64]
theorem laws_szLitS.chk (k : Nat) (x : TupT ST [.lst (.st 2), .int .i64]) : runU TT (calOf (laws_szLitS.ents k)) (jmps laws_szLitS.us k) (finK Tryz.f94 (retK TT (.one) [.int .i64])) Tryz.f94 none (canon (args0 0 (argL [.one, .one] [.lst (.st 2), .int .i64] x)) []) = laws_szLitS.f k x.1 x.2 := Eq.trans (show _ = laws_szLitS.raw k x.1 x.2 by kernel_rfl) (laws_szLitS.clean k x.1 x.2)
theorem laws_szLitS.ok (k : Nat) : EntOk Tryz.prog TT (laws_szLitS.ent k) :=
  fun_of tbl mixed 94 Tryz.f94 Tryz.func94 rfl (by kernel_rfl) [.one, .one] [.lst (.st 2), .int .i64] (.one) [.int .i64] (by kernel_rfl) laws_szLitS.ents laws_szLitS.us (And.intro (fun _ => rfl) True.intro) (And.intro laws_szLitS.l0.chk True.intro) (fun k (x : TupT ST [.lst (.st 2), .int .i64]) => laws_szLitS.f k x.1 x.2) laws_szLitS.chk (fun k => EntsOk.mk (And.intro (laws_szLit.ok k) True.intro) True.intro) k
noncomputable def laws_szClause.f (k : Nat) (l0_0 : List (L_Lit)) (a1 : Int) : Option (Int) := (laws_szLitS.f k l0_0 a1).bind fun t1 => (if t1 < 0 then (some (-1)) else (some t1))
@[reducible] noncomputable def laws_szClause.us : List (CutU TT (TupT ST [.int .i64])) := []
noncomputable def laws_szClause.ent (k : Nat) : Ent TT := ⟨17, [.agg 1, .one], [.lst (.st 2), .int .i64], .one, [.int .i64], fun x => laws_szClause.f k x.1 x.2⟩
noncomputable def laws_szClause.ents (k : Nat) : Ents TT := ⟨[laws_szLitS.ent k], []⟩
theorem laws_szClause.chk (k : Nat) (x : TupT ST [.lst (.st 2), .int .i64]) : runU TT (calOf (laws_szClause.ents k)) (jmps laws_szClause.us k) (finK Tryz.f17 (retK TT (.one) [.int .i64])) Tryz.f17 none (canon (args0 0 (argL [.agg 1, .one] [.lst (.st 2), .int .i64] x)) []) = laws_szClause.f k x.1 x.2 := by kernel_rfl
theorem laws_szClause.ok (k : Nat) : EntOk Tryz.prog TT (laws_szClause.ent k) :=
  fun_of tbl mixed 17 Tryz.f17 Tryz.func17 rfl (by kernel_rfl) [.agg 1, .one] [.lst (.st 2), .int .i64] (.one) [.int .i64] (by kernel_rfl) laws_szClause.ents laws_szClause.us True.intro True.intro (fun k (x : TupT ST [.lst (.st 2), .int .i64]) => laws_szClause.f k x.1 x.2) laws_szClause.chk (fun k => EntsOk.mk (And.intro (laws_szLitS.ok k) True.intro) True.intro) k
noncomputable def laws_toSym.f (a0_0 : ByteArray) (a0_1 : Int) (a0_2 : Bool) : Option (ByteArray × Int × Bool) := some (a0_0, a0_1, a0_2)
@[reducible] noncomputable def laws_toSym.us : List (CutU TT (TupT ST [.str, .int .i64, .bool])) := []
noncomputable def laws_toSym.ent : Ent TT := ⟨97, [.agg 3], [.str, .int .i64, .bool], .agg 3, [.str, .int .i64, .bool], fun x => laws_toSym.f x.1 x.2.1 x.2.2⟩
noncomputable def laws_toSym.ents (k : Nat) : Ents TT := ⟨[], []⟩
theorem laws_toSym.chk (k : Nat) (x : TupT ST [.str, .int .i64, .bool]) : runU TT (calOf (laws_toSym.ents k)) (jmps laws_toSym.us k) (finK Tryz.f97 (retK TT (.agg 3) [.str, .int .i64, .bool])) Tryz.f97 none (canon (args0 0 (argL [.agg 3] [.str, .int .i64, .bool] x)) []) = laws_toSym.f x.1 x.2.1 x.2.2 := by kernel_rfl
theorem laws_toSym.ok : EntOk Tryz.prog TT (laws_toSym.ent) :=
  fun_of tbl mixed 97 Tryz.f97 Tryz.func97 rfl (by kernel_rfl) [.agg 3] [.str, .int .i64, .bool] (.agg 3) [.str, .int .i64, .bool] (by kernel_rfl) laws_toSym.ents laws_toSym.us True.intro True.intro (fun k (x : TupT ST [.str, .int .i64, .bool]) => laws_toSym.f x.1 x.2.1 x.2.2) laws_toSym.chk (fun k => EntsOk.mk True.intro True.intro) 0
noncomputable def laws_toSymS.l0 : Nat → List (L_Sym) → List (I_Sym) → Int → Option ((List (I_Sym)))
  | 0, _, _, _ => none
  | k + 1, x0, x3, x4 => if x4 < (x0.length : Int) then (if 0 ≤ x4 then ((laws_toSym.f ((rd_L_Sym x0 x4).f0) ((rd_L_Sym x0 x4).f1) ((rd_L_Sym x0 x4).f2)).bind fun t1 => (if x4 < (x3.length : Int) then (laws_toSymS.l0 k x0 (x3.set (x4 : Int).toNat ⟨t1.1, t1.2.1, t1.2.2⟩) (wrap64 (x4 + 1))) else none)) else none) else (some x3)
noncomputable def laws_toSymS.f (k : Nat) (l0 : List (L_Sym)) : Option ((List (I_Sym))) := if 0 ≤ (l0.length : Int) then (if (l0.length : Int) ≤ 1599289640401 then (laws_toSymS.l0 k l0 (List.replicate ((l0.length : Int) : Int).toNat zI_Sym) 0) else none) else none
noncomputable def laws_toSymS.l0.c : Cut := ⟨[0], [], [(0, .one), (3, .own 7), (4, .one)], [], [(7, .st 4)], [.lst (.st 0), .int .i64, .lst (.st 4)]⟩
@[reducible] noncomputable def laws_toSymS.us : List (CutU TT (TupT ST [.lst (.st 4)])) := [⟨3, laws_toSymS.l0.c, fun k x => laws_toSymS.l0 k x.1 x.2.2 x.2.1⟩]
noncomputable def laws_toSymS.ent (k : Nat) : Ent TT := ⟨19, [.one], [.lst (.st 0)], .one, [.lst (.st 4)], fun x => laws_toSymS.f k x⟩
noncomputable def laws_toSymS.ents (k : Nat) : Ents TT := ⟨[laws_toSym.ent], []⟩
noncomputable def laws_toSymS.l0.raw (k : Nat) (x0 : List (L_Sym)) (x3 : List (I_Sym)) (x4 : Int) : Option ((List (I_Sym))) := if x4 < (x0.length : Int) then (if 0 ≤ x4 then (if x4 < (x0.length : Int) then ((laws_toSym.f ((rd_L_Sym x0 x4).f0) ((rd_L_Sym x0 x4).f1) ((rd_L_Sym x0 x4).f2)).bind fun t1 => (if 0 ≤ x4 then (if x4 < (x3.length : Int) then (laws_toSymS.l0 k x0 (x3.set (x4 : Int).toNat ⟨t1.1, t1.2.1, t1.2.2⟩) (wr .i64 (x4 + 1))) else none) else none)) else none) else none) else (some x3)
theorem laws_toSymS.l0.clean (k : Nat) (x0 : List (L_Sym)) (x3 : List (I_Sym)) (x4 : Int) : laws_toSymS.l0.raw k x0 x3 x4 = laws_toSymS.l0 (k + 1) x0 x3 x4 := by
  rw [laws_toSymS.l0.raw, laws_toSymS.l0]
  simp only [wr_i64]
  exact ite_congr rfl (fun h0 => ite_congr rfl (fun h1 => Eq.trans (if_pos h0) (bind_cg fun t1 => (if_pos h1))) (fun h1 => rfl)) (fun h0 => rfl)
theorem laws_toSymS.l0.chk (k : Nat) (x : TupT ST [.lst (.st 0), .int .i64, .lst (.st 4)]) : runU TT (calOf (laws_toSymS.ents k)) (jmps laws_toSymS.us k) (finK Tryz.f19 (retK TT (.one) [.lst (.st 4)])) Tryz.f19 (some 3) (canonC laws_toSymS.l0.c x) = laws_toSymS.l0 (k + 1) x.1 x.2.2 x.2.1 := Eq.trans (show _ = laws_toSymS.l0.raw k x.1 x.2.2 x.2.1 by kernel_rfl) (laws_toSymS.l0.clean k x.1 x.2.2 x.2.1)
noncomputable def laws_toSymS.raw (k : Nat) (l0 : List (L_Sym)) : Option ((List (I_Sym))) := if 0 ≤ (l0.length : Int) then (if (l0.length : Int) ≤ (l0.length : Int) then (if (l0.length : Int) ≤ 1599289640401 then (laws_toSymS.l0 k l0 (List.replicate ((l0.length : Int) : Int).toNat zI_Sym) 0) else none) else none) else none
theorem laws_toSymS.clean (k : Nat) (l0 : List (L_Sym)) : laws_toSymS.raw k l0 = laws_toSymS.f k l0 := by
  rw [laws_toSymS.raw, laws_toSymS.f]
  exact ite_congr rfl (fun h0 => if_pos (Int.le_refl _)) (fun h0 => rfl)
theorem laws_toSymS.chk (k : Nat) (x : TupT ST [.lst (.st 0)]) : runU TT (calOf (laws_toSymS.ents k)) (jmps laws_toSymS.us k) (finK Tryz.f19 (retK TT (.one) [.lst (.st 4)])) Tryz.f19 none (canon (args0 0 (argL [.one] [.lst (.st 0)] x)) []) = laws_toSymS.f k x := Eq.trans (show _ = laws_toSymS.raw k x by kernel_rfl) (laws_toSymS.clean k x)
theorem laws_toSymS.ok (k : Nat) : EntOk Tryz.prog TT (laws_toSymS.ent k) :=
  fun_of tbl mixed 19 Tryz.f19 Tryz.func19 rfl (by kernel_rfl) [.one] [.lst (.st 0)] (.one) [.lst (.st 4)] (by kernel_rfl) laws_toSymS.ents laws_toSymS.us (And.intro (fun _ => rfl) True.intro) (And.intro laws_toSymS.l0.chk True.intro) (fun k (x : TupT ST [.lst (.st 0)]) => laws_toSymS.f k x) laws_toSymS.chk (fun k => EntsOk.mk (And.intro laws_toSym.ok True.intro) True.intro) k
mutual
noncomputable def laws_toTermS.l0 : Nat → List (L_Term) → List (I_Term) → Int → Option ((List (I_Term)))
  | 0, _, _, _ => none
  | k + 1, x0, x3, x4 => if x4 < (x0.length : Int) then (if 0 ≤ x4 then ((laws_toTerm.f k ((rd_L_Term x0 x4).f0) ((rd_L_Term x0 x4).f1) ((rd_L_Term x0 x4).f2)).bind fun t1 => (if x4 < (x3.length : Int) then (laws_toTermS.l0 k x0 (x3.set (x4 : Int).toNat ⟨t1.1, t1.2.1, t1.2.2⟩) (wrap64 (x4 + 1))) else none)) else none) else (some x3)
noncomputable def laws_toTermS.f : Nat → List (L_Term) → Option ((List (I_Term)))
  | 0, _ => none
  | k + 1, l0 => if 0 ≤ (l0.length : Int) then (if (l0.length : Int) ≤ 1599289640401 then (laws_toTermS.l0 k l0 (List.replicate ((l0.length : Int) : Int).toNat zI_Term) 0) else none) else none
noncomputable def laws_toTerm.f : Nat → Int → Int → List (L_Term) → Option (Int × Int × (List (I_Term)))
  | 0, _, _, _ => none
  | k + 1, a0_0, a0_1, l0_2 => (laws_toTermS.f k l0_2).bind fun t1 => (some (a0_0, a0_1, t1))
end
noncomputable def laws_toTermS.ent (k : Nat) : Ent TT := ⟨298, [.one], [.lst (.st 1)], .one, [.lst (.st 5)], fun x => laws_toTermS.f k x⟩
noncomputable def laws_toTerm.ent (k : Nat) : Ent TT := ⟨279, [.agg 3], [.int .i64, .int .i64, .lst (.st 1)], .agg 3, [.int .i64, .int .i64, .lst (.st 5)], fun x => laws_toTerm.f k x.1 x.2.1 x.2.2⟩
noncomputable def laws_toTermS.l0.c : Cut := ⟨[0], [], [(0, .one), (3, .own 7), (4, .one)], [], [(7, .st 5)], [.lst (.st 1), .int .i64, .lst (.st 5)]⟩
@[reducible] noncomputable def laws_toTermS.us : List (CutU TT (TupT ST [.lst (.st 5)])) := [⟨3, laws_toTermS.l0.c, fun k x => laws_toTermS.l0 k x.1 x.2.2 x.2.1⟩]
noncomputable def laws_toTermS.ents (k : Nat) : Ents TT := ⟨[laws_toTerm.ent k], []⟩
noncomputable def laws_toTermS.l0.raw (k : Nat) (x0 : List (L_Term)) (x3 : List (I_Term)) (x4 : Int) : Option ((List (I_Term))) := if x4 < (x0.length : Int) then (if 0 ≤ x4 then (if x4 < (x0.length : Int) then ((laws_toTerm.f k ((rd_L_Term x0 x4).f0) ((rd_L_Term x0 x4).f1) ((rd_L_Term x0 x4).f2)).bind fun t1 => (if 0 ≤ x4 then (if x4 < (x3.length : Int) then (laws_toTermS.l0 k x0 (x3.set (x4 : Int).toNat ⟨t1.1, t1.2.1, t1.2.2⟩) (wr .i64 (x4 + 1))) else none) else none)) else none) else none) else (some x3)
theorem laws_toTermS.l0.clean (k : Nat) (x0 : List (L_Term)) (x3 : List (I_Term)) (x4 : Int) : laws_toTermS.l0.raw k x0 x3 x4 = laws_toTermS.l0 (k + 1) x0 x3 x4 := by
  rw [laws_toTermS.l0.raw, laws_toTermS.l0]
  simp only [wr_i64]
  exact ite_congr rfl (fun h0 => ite_congr rfl (fun h1 => Eq.trans (if_pos h0) (bind_cg fun t1 => (if_pos h1))) (fun h1 => rfl)) (fun h0 => rfl)
theorem laws_toTermS.l0.chk (k : Nat) (x : TupT ST [.lst (.st 1), .int .i64, .lst (.st 5)]) : runU TT (calOf (laws_toTermS.ents k)) (jmps laws_toTermS.us k) (finK Tryz.f298 (retK TT (.one) [.lst (.st 5)])) Tryz.f298 (some 3) (canonC laws_toTermS.l0.c x) = laws_toTermS.l0 (k + 1) x.1 x.2.2 x.2.1 := Eq.trans (show _ = laws_toTermS.l0.raw k x.1 x.2.2 x.2.1 by kernel_rfl) (laws_toTermS.l0.clean k x.1 x.2.2 x.2.1)
noncomputable def laws_toTermS.raw (k : Nat) (l0 : List (L_Term)) : Option ((List (I_Term))) := if 0 ≤ (l0.length : Int) then (if (l0.length : Int) ≤ (l0.length : Int) then (if (l0.length : Int) ≤ 1599289640401 then (laws_toTermS.l0 k l0 (List.replicate ((l0.length : Int) : Int).toNat zI_Term) 0) else none) else none) else none
theorem laws_toTermS.clean (k : Nat) (l0 : List (L_Term)) : laws_toTermS.raw k l0 = laws_toTermS.f (k + 1) l0 := by
  rw [laws_toTermS.raw, laws_toTermS.f]
  exact ite_congr rfl (fun h0 => if_pos (Int.le_refl _)) (fun h0 => rfl)
theorem laws_toTermS.chk (k : Nat) (x : TupT ST [.lst (.st 1)]) : runU TT (calOf (laws_toTermS.ents k)) (jmps laws_toTermS.us k) (finK Tryz.f298 (retK TT (.one) [.lst (.st 5)])) Tryz.f298 none (canon (args0 0 (argL [.one] [.lst (.st 1)] x)) []) = laws_toTermS.f (k + 1) x := Eq.trans (show _ = laws_toTermS.raw k x by kernel_rfl) (laws_toTermS.clean k x)
@[reducible] noncomputable def laws_toTerm.us : List (CutU TT (TupT ST [.int .i64, .int .i64, .lst (.st 5)])) := []
noncomputable def laws_toTerm.ents (k : Nat) : Ents TT := ⟨[laws_toTermS.ent k], []⟩
theorem laws_toTerm.chk (k : Nat) (x : TupT ST [.int .i64, .int .i64, .lst (.st 1)]) : runU TT (calOf (laws_toTerm.ents k)) (jmps laws_toTerm.us k) (finK Tryz.f279 (retK TT (.agg 3) [.int .i64, .int .i64, .lst (.st 5)])) Tryz.f279 none (canon (args0 0 (argL [.agg 3] [.int .i64, .int .i64, .lst (.st 1)] x)) []) = laws_toTerm.f (k + 1) x.1 x.2.1 x.2.2 := by kernel_rfl
theorem laws_toTermS.grp : ∀ k : Nat, EachU (EntOk Tryz.prog TT) [laws_toTermS.ent k, laws_toTerm.ent k] ∧ EachU (Ent2Ok Tryz.prog TT) [] := by
  intro k
  induction k using Nat.strongRecOn with
  | ind k ih =>
    exact And.intro (And.intro (fun_in tbl mixed 298 Tryz.f298 Tryz.func298 rfl (by kernel_rfl) [.one] [.lst (.st 1)] (.one) [.lst (.st 5)] (by kernel_rfl) laws_toTermS.ents laws_toTermS.us (And.intro (fun _ => rfl) True.intro) (And.intro laws_toTermS.l0.chk True.intro) (fun k (x : TupT ST [.lst (.st 1)]) => laws_toTermS.f k x) (fun _ => rfl) laws_toTermS.chk k (fun j h => EntsOk.mk (And.intro (ih j h).1.2.1 True.intro) True.intro)) (And.intro (fun_in tbl mixed 279 Tryz.f279 Tryz.func279 rfl (by kernel_rfl) [.agg 3] [.int .i64, .int .i64, .lst (.st 1)] (.agg 3) [.int .i64, .int .i64, .lst (.st 5)] (by kernel_rfl) laws_toTerm.ents laws_toTerm.us True.intro True.intro (fun k (x : TupT ST [.int .i64, .int .i64, .lst (.st 1)]) => laws_toTerm.f k x.1 x.2.1 x.2.2) (fun _ => rfl) laws_toTerm.chk k (fun j h => EntsOk.mk (And.intro (ih j h).1.1 True.intro) True.intro)) True.intro)) True.intro
theorem laws_toTermS.ok (k : Nat) : EntOk Tryz.prog TT (laws_toTermS.ent k) := (laws_toTermS.grp k).1.1
theorem laws_toTerm.ok (k : Nat) : EntOk Tryz.prog TT (laws_toTerm.ent k) := (laws_toTermS.grp k).1.2.1
noncomputable def laws_toLit.f (k : Nat) (a0_0 : Bool) (a0_1 : Int) (a0_2 : Int) (l0_3 : List (L_Term)) (a0_4 : Int) (a0_5 : Int) (l0_6 : List (L_Term)) : Option (Bool × Int × Int × (List (I_Term)) × Int × Int × (List (I_Term))) := (laws_toTerm.f k a0_1 a0_2 l0_3).bind fun t1 => ((laws_toTerm.f k a0_4 a0_5 l0_6).bind fun t2 => (some (a0_0, t1.1, t1.2.1, t1.2.2, t2.1, t2.2.1, t2.2.2)))
@[reducible] noncomputable def laws_toLit.us : List (CutU TT (TupT ST [.bool, .int .i64, .int .i64, .lst (.st 5), .int .i64, .int .i64, .lst (.st 5)])) := []
noncomputable def laws_toLit.ent (k : Nat) : Ent TT := ⟨222, [.agg 7], [.bool, .int .i64, .int .i64, .lst (.st 1), .int .i64, .int .i64, .lst (.st 1)], .agg 7, [.bool, .int .i64, .int .i64, .lst (.st 5), .int .i64, .int .i64, .lst (.st 5)], fun x => laws_toLit.f k x.1 x.2.1 x.2.2.1 x.2.2.2.1 x.2.2.2.2.1 x.2.2.2.2.2.1 x.2.2.2.2.2.2⟩
noncomputable def laws_toLit.ents (k : Nat) : Ents TT := ⟨[laws_toTerm.ent k], []⟩
theorem laws_toLit.chk (k : Nat) (x : TupT ST [.bool, .int .i64, .int .i64, .lst (.st 1), .int .i64, .int .i64, .lst (.st 1)]) : runU TT (calOf (laws_toLit.ents k)) (jmps laws_toLit.us k) (finK Tryz.f222 (retK TT (.agg 7) [.bool, .int .i64, .int .i64, .lst (.st 5), .int .i64, .int .i64, .lst (.st 5)])) Tryz.f222 none (canon (args0 0 (argL [.agg 7] [.bool, .int .i64, .int .i64, .lst (.st 1), .int .i64, .int .i64, .lst (.st 1)] x)) []) = laws_toLit.f k x.1 x.2.1 x.2.2.1 x.2.2.2.1 x.2.2.2.2.1 x.2.2.2.2.2.1 x.2.2.2.2.2.2 := by kernel_rfl
theorem laws_toLit.ok (k : Nat) : EntOk Tryz.prog TT (laws_toLit.ent k) :=
  fun_of tbl mixed 222 Tryz.f222 Tryz.func222 rfl (by kernel_rfl) [.agg 7] [.bool, .int .i64, .int .i64, .lst (.st 1), .int .i64, .int .i64, .lst (.st 1)] (.agg 7) [.bool, .int .i64, .int .i64, .lst (.st 5), .int .i64, .int .i64, .lst (.st 5)] (by kernel_rfl) laws_toLit.ents laws_toLit.us True.intro True.intro (fun k (x : TupT ST [.bool, .int .i64, .int .i64, .lst (.st 1), .int .i64, .int .i64, .lst (.st 1)]) => laws_toLit.f k x.1 x.2.1 x.2.2.1 x.2.2.2.1 x.2.2.2.2.1 x.2.2.2.2.2.1 x.2.2.2.2.2.2) laws_toLit.chk (fun k => EntsOk.mk (And.intro (laws_toTerm.ok k) True.intro) True.intro) k
noncomputable def laws_toLitS.l0 : Nat → List (L_Lit) → List (I_Lit) → Int → Option ((List (I_Lit)))
  | 0, _, _, _ => none
  | k + 1, x0, x3, x4 => if x4 < (x0.length : Int) then (if 0 ≤ x4 then ((laws_toLit.f k ((rd_L_Lit x0 x4).f0) ((rd_L_Lit x0 x4).f1.f0) ((rd_L_Lit x0 x4).f1.f1) ((rd_L_Lit x0 x4).f1.f2) ((rd_L_Lit x0 x4).f2.f0) ((rd_L_Lit x0 x4).f2.f1) ((rd_L_Lit x0 x4).f2.f2)).bind fun t1 => (if x4 < (x3.length : Int) then (laws_toLitS.l0 k x0 (x3.set (x4 : Int).toNat ⟨t1.1, ⟨t1.2.1, t1.2.2.1, t1.2.2.2.1⟩, ⟨t1.2.2.2.2.1, t1.2.2.2.2.2.1, t1.2.2.2.2.2.2⟩⟩) (wrap64 (x4 + 1))) else none)) else none) else (some x3)
noncomputable def laws_toLitS.f (k : Nat) (l0 : List (L_Lit)) : Option ((List (I_Lit))) := if 0 ≤ (l0.length : Int) then (if (l0.length : Int) ≤ 1599289640401 then (laws_toLitS.l0 k l0 (List.replicate ((l0.length : Int) : Int).toNat zI_Lit) 0) else none) else none
noncomputable def laws_toLitS.l0.c : Cut := ⟨[0], [], [(0, .one), (3, .own 7), (4, .one)], [], [(7, .st 6)], [.lst (.st 2), .int .i64, .lst (.st 6)]⟩
@[reducible] noncomputable def laws_toLitS.us : List (CutU TT (TupT ST [.lst (.st 6)])) := [⟨3, laws_toLitS.l0.c, fun k x => laws_toLitS.l0 k x.1 x.2.2 x.2.1⟩]
noncomputable def laws_toLitS.ent (k : Nat) : Ent TT := ⟨99, [.one], [.lst (.st 2)], .one, [.lst (.st 6)], fun x => laws_toLitS.f k x⟩
noncomputable def laws_toLitS.ents (k : Nat) : Ents TT := ⟨[laws_toLit.ent k], []⟩
noncomputable def laws_toLitS.l0.raw (k : Nat) (x0 : List (L_Lit)) (x3 : List (I_Lit)) (x4 : Int) : Option ((List (I_Lit))) := if x4 < (x0.length : Int) then (if 0 ≤ x4 then (if x4 < (x0.length : Int) then ((laws_toLit.f k ((rd_L_Lit x0 x4).f0) ((rd_L_Lit x0 x4).f1.f0) ((rd_L_Lit x0 x4).f1.f1) ((rd_L_Lit x0 x4).f1.f2) ((rd_L_Lit x0 x4).f2.f0) ((rd_L_Lit x0 x4).f2.f1) ((rd_L_Lit x0 x4).f2.f2)).bind fun t1 => (if 0 ≤ x4 then (if x4 < (x3.length : Int) then (laws_toLitS.l0 k x0 (x3.set (x4 : Int).toNat ⟨t1.1, ⟨t1.2.1, t1.2.2.1, t1.2.2.2.1⟩, ⟨t1.2.2.2.2.1, t1.2.2.2.2.2.1, t1.2.2.2.2.2.2⟩⟩) (wr .i64 (x4 + 1))) else none) else none)) else none) else none) else (some x3)
theorem laws_toLitS.l0.clean (k : Nat) (x0 : List (L_Lit)) (x3 : List (I_Lit)) (x4 : Int) : laws_toLitS.l0.raw k x0 x3 x4 = laws_toLitS.l0 (k + 1) x0 x3 x4 := by
  rw [laws_toLitS.l0.raw, laws_toLitS.l0]
  simp only [wr_i64]
  exact ite_congr rfl (fun h0 => ite_congr rfl (fun h1 => Eq.trans (if_pos h0) (bind_cg fun t1 => (if_pos h1))) (fun h1 => rfl)) (fun h0 => rfl)
theorem laws_toLitS.l0.chk (k : Nat) (x : TupT ST [.lst (.st 2), .int .i64, .lst (.st 6)]) : runU TT (calOf (laws_toLitS.ents k)) (jmps laws_toLitS.us k) (finK Tryz.f99 (retK TT (.one) [.lst (.st 6)])) Tryz.f99 (some 3) (canonC laws_toLitS.l0.c x) = laws_toLitS.l0 (k + 1) x.1 x.2.2 x.2.1 := Eq.trans (show _ = laws_toLitS.l0.raw k x.1 x.2.2 x.2.1 by kernel_rfl) (laws_toLitS.l0.clean k x.1 x.2.2 x.2.1)
noncomputable def laws_toLitS.raw (k : Nat) (l0 : List (L_Lit)) : Option ((List (I_Lit))) := if 0 ≤ (l0.length : Int) then (if (l0.length : Int) ≤ (l0.length : Int) then (if (l0.length : Int) ≤ 1599289640401 then (laws_toLitS.l0 k l0 (List.replicate ((l0.length : Int) : Int).toNat zI_Lit) 0) else none) else none) else none
theorem laws_toLitS.clean (k : Nat) (l0 : List (L_Lit)) : laws_toLitS.raw k l0 = laws_toLitS.f k l0 := by
  rw [laws_toLitS.raw, laws_toLitS.f]
  exact ite_congr rfl (fun h0 => if_pos (Int.le_refl _)) (fun h0 => rfl)
theorem laws_toLitS.chk (k : Nat) (x : TupT ST [.lst (.st 2)]) : runU TT (calOf (laws_toLitS.ents k)) (jmps laws_toLitS.us k) (finK Tryz.f99 (retK TT (.one) [.lst (.st 6)])) Tryz.f99 none (canon (args0 0 (argL [.one] [.lst (.st 2)] x)) []) = laws_toLitS.f k x := Eq.trans (show _ = laws_toLitS.raw k x by kernel_rfl) (laws_toLitS.clean k x)
theorem laws_toLitS.ok (k : Nat) : EntOk Tryz.prog TT (laws_toLitS.ent k) :=
  fun_of tbl mixed 99 Tryz.f99 Tryz.func99 rfl (by kernel_rfl) [.one] [.lst (.st 2)] (.one) [.lst (.st 6)] (by kernel_rfl) laws_toLitS.ents laws_toLitS.us (And.intro (fun _ => rfl) True.intro) (And.intro laws_toLitS.l0.chk True.intro) (fun k (x : TupT ST [.lst (.st 2)]) => laws_toLitS.f k x) laws_toLitS.chk (fun k => EntsOk.mk (And.intro (laws_toLit.ok k) True.intro) True.intro) k
noncomputable def laws_toClause.f (k : Nat) (l0_0 : List (L_Lit)) : Option ((List (I_Lit))) := (laws_toLitS.f k l0_0).bind fun t1 => (some t1)
@[reducible] noncomputable def laws_toClause.us : List (CutU TT (TupT ST [.lst (.st 6)])) := []
noncomputable def laws_toClause.ent (k : Nat) : Ent TT := ⟨21, [.agg 1], [.lst (.st 2)], .agg 1, [.lst (.st 6)], fun x => laws_toClause.f k x⟩
noncomputable def laws_toClause.ents (k : Nat) : Ents TT := ⟨[laws_toLitS.ent k], []⟩
theorem laws_toClause.chk (k : Nat) (x : TupT ST [.lst (.st 2)]) : runU TT (calOf (laws_toClause.ents k)) (jmps laws_toClause.us k) (finK Tryz.f21 (retK TT (.agg 1) [.lst (.st 6)])) Tryz.f21 none (canon (args0 0 (argL [.agg 1] [.lst (.st 2)] x)) []) = laws_toClause.f k x := by kernel_rfl
theorem laws_toClause.ok (k : Nat) : EntOk Tryz.prog TT (laws_toClause.ent k) :=
  fun_of tbl mixed 21 Tryz.f21 Tryz.func21 rfl (by kernel_rfl) [.agg 1] [.lst (.st 2)] (.agg 1) [.lst (.st 6)] (by kernel_rfl) laws_toClause.ents laws_toClause.us True.intro True.intro (fun k (x : TupT ST [.lst (.st 2)]) => laws_toClause.f k x) laws_toClause.chk (fun k => EntsOk.mk (And.intro (laws_toLitS.ok k) True.intro) True.intro) k
noncomputable def laws_eqSym.f (a0_0 : ByteArray) (a0_1 : Int) (a0_2 : Bool) (a1_0 : ByteArray) (a1_1 : Int) (a1_2 : Bool) : Option (Bool) := if a0_0 = a1_0 then (if a0_1 = a1_1 then (if a0_2 = a1_2 then (some true) else (some false)) else (some false)) else (some false)
@[reducible] noncomputable def laws_eqSym.us : List (CutU TT (TupT ST [.bool])) := []
noncomputable def laws_eqSym.ent : Ent TT := ⟨102, [.agg 3, .agg 3], [.str, .int .i64, .bool, .str, .int .i64, .bool], .one, [.bool], fun x => laws_eqSym.f x.1 x.2.1 x.2.2.1 x.2.2.2.1 x.2.2.2.2.1 x.2.2.2.2.2⟩
noncomputable def laws_eqSym.ents (k : Nat) : Ents TT := ⟨[], []⟩
noncomputable def laws_eqSym.raw (k : Nat) (a0_0 : ByteArray) (a0_1 : Int) (a0_2 : Bool) (a1_0 : ByteArray) (a1_1 : Int) (a1_2 : Bool) : Option (Bool) := if ¬ a0_0 = a1_0 then (some false) else (if ¬ a0_1 = a1_1 then (some false) else (if ¬ a0_2 = a1_2 then (some false) else (some true)))
theorem laws_eqSym.clean (k : Nat) (a0_0 : ByteArray) (a0_1 : Int) (a0_2 : Bool) (a1_0 : ByteArray) (a1_1 : Int) (a1_2 : Bool) : laws_eqSym.raw k a0_0 a0_1 a0_2 a1_0 a1_1 a1_2 = laws_eqSym.f a0_0 a0_1 a0_2 a1_0 a1_1 a1_2 := by
  rw [laws_eqSym.raw, laws_eqSym.f]
  exact Eq.trans (ite_ng _ _) (ite_congr rfl (fun h0 => Eq.trans (ite_ng _ _) (ite_congr rfl (fun h1 => ite_ng _ _) (fun h1 => rfl))) (fun h0 => rfl))
theorem laws_eqSym.chk (k : Nat) (x : TupT ST [.str, .int .i64, .bool, .str, .int .i64, .bool]) : runU TT (calOf (laws_eqSym.ents k)) (jmps laws_eqSym.us k) (finK Tryz.f102 (retK TT (.one) [.bool])) Tryz.f102 none (canon (args0 0 (argL [.agg 3, .agg 3] [.str, .int .i64, .bool, .str, .int .i64, .bool] x)) []) = laws_eqSym.f x.1 x.2.1 x.2.2.1 x.2.2.2.1 x.2.2.2.2.1 x.2.2.2.2.2 := Eq.trans (show _ = laws_eqSym.raw k x.1 x.2.1 x.2.2.1 x.2.2.2.1 x.2.2.2.2.1 x.2.2.2.2.2 by kernel_rfl) (laws_eqSym.clean k x.1 x.2.1 x.2.2.1 x.2.2.2.1 x.2.2.2.2.1 x.2.2.2.2.2)
theorem laws_eqSym.ok : EntOk Tryz.prog TT (laws_eqSym.ent) :=
  fun_of tbl mixed 102 Tryz.f102 Tryz.func102 rfl (by kernel_rfl) [.agg 3, .agg 3] [.str, .int .i64, .bool, .str, .int .i64, .bool] (.one) [.bool] (by kernel_rfl) laws_eqSym.ents laws_eqSym.us True.intro True.intro (fun k (x : TupT ST [.str, .int .i64, .bool, .str, .int .i64, .bool]) => laws_eqSym.f x.1 x.2.1 x.2.2.1 x.2.2.2.1 x.2.2.2.2.1 x.2.2.2.2.2) laws_eqSym.chk (fun k => EntsOk.mk True.intro True.intro) 0
noncomputable def laws_eqSymS.l0 : Nat → List (I_Sym) → List (I_Sym) → Int → Option (Bool)
  | 0, _, _, _ => none
  | k + 1, x0, x1, x5 => if x5 < (x0.length : Int) then (if 0 ≤ x5 then (if x5 < (x1.length : Int) then ((laws_eqSym.f ((rd_I_Sym x0 x5).f0) ((rd_I_Sym x0 x5).f1) ((rd_I_Sym x0 x5).f2) ((rd_I_Sym x1 x5).f0) ((rd_I_Sym x1 x5).f1) ((rd_I_Sym x1 x5).f2)).bind fun t1 => (if t1 = true then (laws_eqSymS.l0 k x0 x1 (wrap64 (x5 + 1))) else (some false))) else none) else none) else (some true)
noncomputable def laws_eqSymS.f (k : Nat) (l0 : List (I_Sym)) (l1 : List (I_Sym)) : Option (Bool) := if (l0.length : Int) = (l1.length : Int) then (laws_eqSymS.l0 k l0 l1 0) else (some false)
noncomputable def laws_eqSymS.l0.c : Cut := ⟨[0, 1], [], [(0, .one), (1, .one), (5, .one)], [], [], [.lst (.st 4), .lst (.st 4), .int .i64]⟩
@[reducible] noncomputable def laws_eqSymS.us : List (CutU TT (TupT ST [.bool])) := [⟨4, laws_eqSymS.l0.c, fun k x => laws_eqSymS.l0 k x.1 x.2.1 x.2.2⟩]
noncomputable def laws_eqSymS.ent (k : Nat) : Ent TT := ⟨23, [.one, .one], [.lst (.st 4), .lst (.st 4)], .one, [.bool], fun x => laws_eqSymS.f k x.1 x.2⟩
noncomputable def laws_eqSymS.ents (k : Nat) : Ents TT := ⟨[laws_eqSym.ent], []⟩
noncomputable def laws_eqSymS.l0.raw (k : Nat) (x0 : List (I_Sym)) (x1 : List (I_Sym)) (x5 : Int) : Option (Bool) := if x5 < (x0.length : Int) then (if 0 ≤ x5 then (if x5 < (x0.length : Int) then (if 0 ≤ x5 then (if x5 < (x1.length : Int) then ((laws_eqSym.f ((rd_I_Sym x0 x5).f0) ((rd_I_Sym x0 x5).f1) ((rd_I_Sym x0 x5).f2) ((rd_I_Sym x1 x5).f0) ((rd_I_Sym x1 x5).f1) ((rd_I_Sym x1 x5).f2)).bind fun t1 => (if (!t1) = true then (some false) else (laws_eqSymS.l0 k x0 x1 (wr .i64 (x5 + 1))))) else none) else none) else none) else none) else (some true)
theorem laws_eqSymS.l0.clean (k : Nat) (x0 : List (I_Sym)) (x1 : List (I_Sym)) (x5 : Int) : laws_eqSymS.l0.raw k x0 x1 x5 = laws_eqSymS.l0 (k + 1) x0 x1 x5 := by
  rw [laws_eqSymS.l0.raw, laws_eqSymS.l0]
  simp only [wr_i64]
  exact ite_congr rfl (fun h0 => ite_congr rfl (fun h1 => Eq.trans (if_pos h0) (Eq.trans (if_pos h1) (ite_congr rfl (fun h2 => bind_cg fun t1 => (ite_nb _ _ _)) (fun h2 => rfl)))) (fun h1 => rfl)) (fun h0 => rfl)
theorem laws_eqSymS.l0.chk (k : Nat) (x : TupT ST [.lst (.st 4), .lst (.st 4), .int .i64]) : runU TT (calOf (laws_eqSymS.ents k)) (jmps laws_eqSymS.us k) (finK Tryz.f23 (retK TT (.one) [.bool])) Tryz.f23 (some 4) (canonC laws_eqSymS.l0.c x) = laws_eqSymS.l0 (k + 1) x.1 x.2.1 x.2.2 := Eq.trans (show _ = laws_eqSymS.l0.raw k x.1 x.2.1 x.2.2 by kernel_rfl) (laws_eqSymS.l0.clean k x.1 x.2.1 x.2.2)
noncomputable def laws_eqSymS.raw (k : Nat) (l0 : List (I_Sym)) (l1 : List (I_Sym)) : Option (Bool) := if ¬ (l0.length : Int) = (l1.length : Int) then (some false) else (laws_eqSymS.l0 k l0 l1 0)
theorem laws_eqSymS.clean (k : Nat) (l0 : List (I_Sym)) (l1 : List (I_Sym)) : laws_eqSymS.raw k l0 l1 = laws_eqSymS.f k l0 l1 := by
  rw [laws_eqSymS.raw, laws_eqSymS.f]
  exact ite_ng _ _
theorem laws_eqSymS.chk (k : Nat) (x : TupT ST [.lst (.st 4), .lst (.st 4)]) : runU TT (calOf (laws_eqSymS.ents k)) (jmps laws_eqSymS.us k) (finK Tryz.f23 (retK TT (.one) [.bool])) Tryz.f23 none (canon (args0 0 (argL [.one, .one] [.lst (.st 4), .lst (.st 4)] x)) []) = laws_eqSymS.f k x.1 x.2 := Eq.trans (show _ = laws_eqSymS.raw k x.1 x.2 by kernel_rfl) (laws_eqSymS.clean k x.1 x.2)
theorem laws_eqSymS.ok (k : Nat) : EntOk Tryz.prog TT (laws_eqSymS.ent k) :=
  fun_of tbl mixed 23 Tryz.f23 Tryz.func23 rfl (by kernel_rfl) [.one, .one] [.lst (.st 4), .lst (.st 4)] (.one) [.bool] (by kernel_rfl) laws_eqSymS.ents laws_eqSymS.us (And.intro (fun _ => rfl) True.intro) (And.intro laws_eqSymS.l0.chk True.intro) (fun k (x : TupT ST [.lst (.st 4), .lst (.st 4)]) => laws_eqSymS.f k x.1 x.2) laws_eqSymS.chk (fun k => EntsOk.mk (And.intro laws_eqSym.ok True.intro) True.intro) k
mutual
noncomputable def laws_eqTermS.l0 : Nat → List (I_Term) → List (I_Term) → Int → Option (Bool)
  | 0, _, _, _ => none
  | k + 1, x0, x1, x5 => if x5 < (x0.length : Int) then (if 0 ≤ x5 then (if x5 < (x1.length : Int) then ((laws_eqTerm.f k ((rd_I_Term x0 x5).f0) ((rd_I_Term x0 x5).f1) ((rd_I_Term x0 x5).f2) ((rd_I_Term x1 x5).f0) ((rd_I_Term x1 x5).f1) ((rd_I_Term x1 x5).f2)).bind fun t1 => (if t1 = true then (laws_eqTermS.l0 k x0 x1 (wrap64 (x5 + 1))) else (some false))) else none) else none) else (some true)
noncomputable def laws_eqTermS.f : Nat → List (I_Term) → List (I_Term) → Option (Bool)
  | 0, _, _ => none
  | k + 1, l0, l1 => if (l0.length : Int) = (l1.length : Int) then (laws_eqTermS.l0 k l0 l1 0) else (some false)
noncomputable def laws_eqTerm.f : Nat → Int → Int → List (I_Term) → Int → Int → List (I_Term) → Option (Bool)
  | 0, _, _, _, _, _, _ => none
  | k + 1, a0_0, a0_1, l0_2, a1_0, a1_1, l1_2 => if a0_0 = a1_0 then (if a0_1 = a1_1 then ((laws_eqTermS.f k l0_2 l1_2).bind fun t1 => (if t1 = true then (some true) else (some false))) else (some false)) else (some false)
end
noncomputable def laws_eqTermS.ent (k : Nat) : Ent TT := ⟨299, [.one, .one], [.lst (.st 5), .lst (.st 5)], .one, [.bool], fun x => laws_eqTermS.f k x.1 x.2⟩
noncomputable def laws_eqTerm.ent (k : Nat) : Ent TT := ⟨281, [.agg 3, .agg 3], [.int .i64, .int .i64, .lst (.st 5), .int .i64, .int .i64, .lst (.st 5)], .one, [.bool], fun x => laws_eqTerm.f k x.1 x.2.1 x.2.2.1 x.2.2.2.1 x.2.2.2.2.1 x.2.2.2.2.2⟩
noncomputable def laws_eqTermS.l0.c : Cut := ⟨[0, 1], [], [(0, .one), (1, .one), (5, .one)], [], [], [.lst (.st 5), .lst (.st 5), .int .i64]⟩
@[reducible] noncomputable def laws_eqTermS.us : List (CutU TT (TupT ST [.bool])) := [⟨4, laws_eqTermS.l0.c, fun k x => laws_eqTermS.l0 k x.1 x.2.1 x.2.2⟩]
noncomputable def laws_eqTermS.ents (k : Nat) : Ents TT := ⟨[laws_eqTerm.ent k], []⟩
noncomputable def laws_eqTermS.l0.raw (k : Nat) (x0 : List (I_Term)) (x1 : List (I_Term)) (x5 : Int) : Option (Bool) := if x5 < (x0.length : Int) then (if 0 ≤ x5 then (if x5 < (x0.length : Int) then (if 0 ≤ x5 then (if x5 < (x1.length : Int) then ((laws_eqTerm.f k ((rd_I_Term x0 x5).f0) ((rd_I_Term x0 x5).f1) ((rd_I_Term x0 x5).f2) ((rd_I_Term x1 x5).f0) ((rd_I_Term x1 x5).f1) ((rd_I_Term x1 x5).f2)).bind fun t1 => (if (!t1) = true then (some false) else (laws_eqTermS.l0 k x0 x1 (wr .i64 (x5 + 1))))) else none) else none) else none) else none) else (some true)
theorem laws_eqTermS.l0.clean (k : Nat) (x0 : List (I_Term)) (x1 : List (I_Term)) (x5 : Int) : laws_eqTermS.l0.raw k x0 x1 x5 = laws_eqTermS.l0 (k + 1) x0 x1 x5 := by
  rw [laws_eqTermS.l0.raw, laws_eqTermS.l0]
  simp only [wr_i64]
  exact ite_congr rfl (fun h0 => ite_congr rfl (fun h1 => Eq.trans (if_pos h0) (Eq.trans (if_pos h1) (ite_congr rfl (fun h2 => bind_cg fun t1 => (ite_nb _ _ _)) (fun h2 => rfl)))) (fun h1 => rfl)) (fun h0 => rfl)
theorem laws_eqTermS.l0.chk (k : Nat) (x : TupT ST [.lst (.st 5), .lst (.st 5), .int .i64]) : runU TT (calOf (laws_eqTermS.ents k)) (jmps laws_eqTermS.us k) (finK Tryz.f299 (retK TT (.one) [.bool])) Tryz.f299 (some 4) (canonC laws_eqTermS.l0.c x) = laws_eqTermS.l0 (k + 1) x.1 x.2.1 x.2.2 := Eq.trans (show _ = laws_eqTermS.l0.raw k x.1 x.2.1 x.2.2 by kernel_rfl) (laws_eqTermS.l0.clean k x.1 x.2.1 x.2.2)
noncomputable def laws_eqTermS.raw (k : Nat) (l0 : List (I_Term)) (l1 : List (I_Term)) : Option (Bool) := if ¬ (l0.length : Int) = (l1.length : Int) then (some false) else (laws_eqTermS.l0 k l0 l1 0)
theorem laws_eqTermS.clean (k : Nat) (l0 : List (I_Term)) (l1 : List (I_Term)) : laws_eqTermS.raw k l0 l1 = laws_eqTermS.f (k + 1) l0 l1 := by
  rw [laws_eqTermS.raw, laws_eqTermS.f]
  exact ite_ng _ _
theorem laws_eqTermS.chk (k : Nat) (x : TupT ST [.lst (.st 5), .lst (.st 5)]) : runU TT (calOf (laws_eqTermS.ents k)) (jmps laws_eqTermS.us k) (finK Tryz.f299 (retK TT (.one) [.bool])) Tryz.f299 none (canon (args0 0 (argL [.one, .one] [.lst (.st 5), .lst (.st 5)] x)) []) = laws_eqTermS.f (k + 1) x.1 x.2 := Eq.trans (show _ = laws_eqTermS.raw k x.1 x.2 by kernel_rfl) (laws_eqTermS.clean k x.1 x.2)
@[reducible] noncomputable def laws_eqTerm.us : List (CutU TT (TupT ST [.bool])) := []
noncomputable def laws_eqTerm.ents (k : Nat) : Ents TT := ⟨[laws_eqTermS.ent k], []⟩
noncomputable def laws_eqTerm.raw (k : Nat) (a0_0 : Int) (a0_1 : Int) (l0_2 : List (I_Term)) (a1_0 : Int) (a1_1 : Int) (l1_2 : List (I_Term)) : Option (Bool) := if ¬ a0_0 = a1_0 then (some false) else (if ¬ a0_1 = a1_1 then (some false) else ((laws_eqTermS.f k l0_2 l1_2).bind fun t1 => (if (!t1) = true then (some false) else (some true))))
theorem laws_eqTerm.clean (k : Nat) (a0_0 : Int) (a0_1 : Int) (l0_2 : List (I_Term)) (a1_0 : Int) (a1_1 : Int) (l1_2 : List (I_Term)) : laws_eqTerm.raw k a0_0 a0_1 l0_2 a1_0 a1_1 l1_2 = laws_eqTerm.f (k + 1) a0_0 a0_1 l0_2 a1_0 a1_1 l1_2 := by
  rw [laws_eqTerm.raw, laws_eqTerm.f]
  exact Eq.trans (ite_ng _ _) (ite_congr rfl (fun h0 => Eq.trans (ite_ng _ _) (ite_congr rfl (fun h1 => bind_cg fun t1 => (ite_nb _ _ _)) (fun h1 => rfl))) (fun h0 => rfl))
theorem laws_eqTerm.chk (k : Nat) (x : TupT ST [.int .i64, .int .i64, .lst (.st 5), .int .i64, .int .i64, .lst (.st 5)]) : runU TT (calOf (laws_eqTerm.ents k)) (jmps laws_eqTerm.us k) (finK Tryz.f281 (retK TT (.one) [.bool])) Tryz.f281 none (canon (args0 0 (argL [.agg 3, .agg 3] [.int .i64, .int .i64, .lst (.st 5), .int .i64, .int .i64, .lst (.st 5)] x)) []) = laws_eqTerm.f (k + 1) x.1 x.2.1 x.2.2.1 x.2.2.2.1 x.2.2.2.2.1 x.2.2.2.2.2 := Eq.trans (show _ = laws_eqTerm.raw k x.1 x.2.1 x.2.2.1 x.2.2.2.1 x.2.2.2.2.1 x.2.2.2.2.2 by kernel_rfl) (laws_eqTerm.clean k x.1 x.2.1 x.2.2.1 x.2.2.2.1 x.2.2.2.2.1 x.2.2.2.2.2)
theorem laws_eqTermS.grp : ∀ k : Nat, EachU (EntOk Tryz.prog TT) [laws_eqTermS.ent k, laws_eqTerm.ent k] ∧ EachU (Ent2Ok Tryz.prog TT) [] := by
  intro k
  induction k using Nat.strongRecOn with
  | ind k ih =>
    exact And.intro (And.intro (fun_in tbl mixed 299 Tryz.f299 Tryz.func299 rfl (by kernel_rfl) [.one, .one] [.lst (.st 5), .lst (.st 5)] (.one) [.bool] (by kernel_rfl) laws_eqTermS.ents laws_eqTermS.us (And.intro (fun _ => rfl) True.intro) (And.intro laws_eqTermS.l0.chk True.intro) (fun k (x : TupT ST [.lst (.st 5), .lst (.st 5)]) => laws_eqTermS.f k x.1 x.2) (fun _ => rfl) laws_eqTermS.chk k (fun j h => EntsOk.mk (And.intro (ih j h).1.2.1 True.intro) True.intro)) (And.intro (fun_in tbl mixed 281 Tryz.f281 Tryz.func281 rfl (by kernel_rfl) [.agg 3, .agg 3] [.int .i64, .int .i64, .lst (.st 5), .int .i64, .int .i64, .lst (.st 5)] (.one) [.bool] (by kernel_rfl) laws_eqTerm.ents laws_eqTerm.us True.intro True.intro (fun k (x : TupT ST [.int .i64, .int .i64, .lst (.st 5), .int .i64, .int .i64, .lst (.st 5)]) => laws_eqTerm.f k x.1 x.2.1 x.2.2.1 x.2.2.2.1 x.2.2.2.2.1 x.2.2.2.2.2) (fun _ => rfl) laws_eqTerm.chk k (fun j h => EntsOk.mk (And.intro (ih j h).1.1 True.intro) True.intro)) True.intro)) True.intro
theorem laws_eqTermS.ok (k : Nat) : EntOk Tryz.prog TT (laws_eqTermS.ent k) := (laws_eqTermS.grp k).1.1
theorem laws_eqTerm.ok (k : Nat) : EntOk Tryz.prog TT (laws_eqTerm.ent k) := (laws_eqTermS.grp k).1.2.1
noncomputable def laws_eqLit.f (k : Nat) (a0_0 : Bool) (a0_1 : Int) (a0_2 : Int) (l0_3 : List (I_Term)) (a0_4 : Int) (a0_5 : Int) (l0_6 : List (I_Term)) (a1_0 : Bool) (a1_1 : Int) (a1_2 : Int) (l1_3 : List (I_Term)) (a1_4 : Int) (a1_5 : Int) (l1_6 : List (I_Term)) : Option (Bool) := if a0_0 = a1_0 then ((laws_eqTerm.f k a0_1 a0_2 l0_3 a1_1 a1_2 l1_3).bind fun t1 => (if t1 = true then ((laws_eqTerm.f k a0_4 a0_5 l0_6 a1_4 a1_5 l1_6).bind fun t2 => (if t2 = true then (some true) else (some false))) else (some false))) else (some false)
@[reducible] noncomputable def laws_eqLit.us : List (CutU TT (TupT ST [.bool])) := []
noncomputable def laws_eqLit.ent (k : Nat) : Ent TT := ⟨225, [.agg 7, .agg 7], [.bool, .int .i64, .int .i64, .lst (.st 5), .int .i64, .int .i64, .lst (.st 5), .bool, .int .i64, .int .i64, .lst (.st 5), .int .i64, .int .i64, .lst (.st 5)], .one, [.bool], fun x => laws_eqLit.f k x.1 x.2.1 x.2.2.1 x.2.2.2.1 x.2.2.2.2.1 x.2.2.2.2.2.1 x.2.2.2.2.2.2.1 x.2.2.2.2.2.2.2.1 x.2.2.2.2.2.2.2.2.1 x.2.2.2.2.2.2.2.2.2.1 x.2.2.2.2.2.2.2.2.2.2.1 x.2.2.2.2.2.2.2.2.2.2.2.1 x.2.2.2.2.2.2.2.2.2.2.2.2.1 x.2.2.2.2.2.2.2.2.2.2.2.2.2⟩
noncomputable def laws_eqLit.ents (k : Nat) : Ents TT := ⟨[laws_eqTerm.ent k], []⟩
noncomputable def laws_eqLit.raw (k : Nat) (a0_0 : Bool) (a0_1 : Int) (a0_2 : Int) (l0_3 : List (I_Term)) (a0_4 : Int) (a0_5 : Int) (l0_6 : List (I_Term)) (a1_0 : Bool) (a1_1 : Int) (a1_2 : Int) (l1_3 : List (I_Term)) (a1_4 : Int) (a1_5 : Int) (l1_6 : List (I_Term)) : Option (Bool) := if ¬ a0_0 = a1_0 then (some false) else ((laws_eqTerm.f k a0_1 a0_2 l0_3 a1_1 a1_2 l1_3).bind fun t1 => (if (!t1) = true then (some false) else ((laws_eqTerm.f k a0_4 a0_5 l0_6 a1_4 a1_5 l1_6).bind fun t2 => (if (!t2) = true then (some false) else (some true)))))
theorem laws_eqLit.clean (k : Nat) (a0_0 : Bool) (a0_1 : Int) (a0_2 : Int) (l0_3 : List (I_Term)) (a0_4 : Int) (a0_5 : Int) (l0_6 : List (I_Term)) (a1_0 : Bool) (a1_1 : Int) (a1_2 : Int) (l1_3 : List (I_Term)) (a1_4 : Int) (a1_5 : Int) (l1_6 : List (I_Term)) : laws_eqLit.raw k a0_0 a0_1 a0_2 l0_3 a0_4 a0_5 l0_6 a1_0 a1_1 a1_2 l1_3 a1_4 a1_5 l1_6 = laws_eqLit.f k a0_0 a0_1 a0_2 l0_3 a0_4 a0_5 l0_6 a1_0 a1_1 a1_2 l1_3 a1_4 a1_5 l1_6 := by
  rw [laws_eqLit.raw, laws_eqLit.f]
  exact Eq.trans (ite_ng _ _) (ite_congr rfl (fun h0 => bind_cg fun t1 => (Eq.trans (ite_nb _ _ _) (ite_congr rfl (fun h1 => bind_cg fun t2 => (ite_nb _ _ _)) (fun h1 => rfl)))) (fun h0 => rfl))
theorem laws_eqLit.chk (k : Nat) (x : TupT ST [.bool, .int .i64, .int .i64, .lst (.st 5), .int .i64, .int .i64, .lst (.st 5), .bool, .int .i64, .int .i64, .lst (.st 5), .int .i64, .int .i64, .lst (.st 5)]) : runU TT (calOf (laws_eqLit.ents k)) (jmps laws_eqLit.us k) (finK Tryz.f225 (retK TT (.one) [.bool])) Tryz.f225 none (canon (args0 0 (argL [.agg 7, .agg 7] [.bool, .int .i64, .int .i64, .lst (.st 5), .int .i64, .int .i64, .lst (.st 5), .bool, .int .i64, .int .i64, .lst (.st 5), .int .i64, .int .i64, .lst (.st 5)] x)) []) = laws_eqLit.f k x.1 x.2.1 x.2.2.1 x.2.2.2.1 x.2.2.2.2.1 x.2.2.2.2.2.1 x.2.2.2.2.2.2.1 x.2.2.2.2.2.2.2.1 x.2.2.2.2.2.2.2.2.1 x.2.2.2.2.2.2.2.2.2.1 x.2.2.2.2.2.2.2.2.2.2.1 x.2.2.2.2.2.2.2.2.2.2.2.1 x.2.2.2.2.2.2.2.2.2.2.2.2.1 x.2.2.2.2.2.2.2.2.2.2.2.2.2 := Eq.trans (show _ = laws_eqLit.raw k x.1 x.2.1 x.2.2.1 x.2.2.2.1 x.2.2.2.2.1 x.2.2.2.2.2.1 x.2.2.2.2.2.2.1 x.2.2.2.2.2.2.2.1 x.2.2.2.2.2.2.2.2.1 x.2.2.2.2.2.2.2.2.2.1 x.2.2.2.2.2.2.2.2.2.2.1 x.2.2.2.2.2.2.2.2.2.2.2.1 x.2.2.2.2.2.2.2.2.2.2.2.2.1 x.2.2.2.2.2.2.2.2.2.2.2.2.2 by kernel_rfl) (laws_eqLit.clean k x.1 x.2.1 x.2.2.1 x.2.2.2.1 x.2.2.2.2.1 x.2.2.2.2.2.1 x.2.2.2.2.2.2.1 x.2.2.2.2.2.2.2.1 x.2.2.2.2.2.2.2.2.1 x.2.2.2.2.2.2.2.2.2.1 x.2.2.2.2.2.2.2.2.2.2.1 x.2.2.2.2.2.2.2.2.2.2.2.1 x.2.2.2.2.2.2.2.2.2.2.2.2.1 x.2.2.2.2.2.2.2.2.2.2.2.2.2)
theorem laws_eqLit.ok (k : Nat) : EntOk Tryz.prog TT (laws_eqLit.ent k) :=
  fun_of tbl mixed 225 Tryz.f225 Tryz.func225 rfl (by kernel_rfl) [.agg 7, .agg 7] [.bool, .int .i64, .int .i64, .lst (.st 5), .int .i64, .int .i64, .lst (.st 5), .bool, .int .i64, .int .i64, .lst (.st 5), .int .i64, .int .i64, .lst (.st 5)] (.one) [.bool] (by kernel_rfl) laws_eqLit.ents laws_eqLit.us True.intro True.intro (fun k (x : TupT ST [.bool, .int .i64, .int .i64, .lst (.st 5), .int .i64, .int .i64, .lst (.st 5), .bool, .int .i64, .int .i64, .lst (.st 5), .int .i64, .int .i64, .lst (.st 5)]) => laws_eqLit.f k x.1 x.2.1 x.2.2.1 x.2.2.2.1 x.2.2.2.2.1 x.2.2.2.2.2.1 x.2.2.2.2.2.2.1 x.2.2.2.2.2.2.2.1 x.2.2.2.2.2.2.2.2.1 x.2.2.2.2.2.2.2.2.2.1 x.2.2.2.2.2.2.2.2.2.2.1 x.2.2.2.2.2.2.2.2.2.2.2.1 x.2.2.2.2.2.2.2.2.2.2.2.2.1 x.2.2.2.2.2.2.2.2.2.2.2.2.2) laws_eqLit.chk (fun k => EntsOk.mk (And.intro (laws_eqTerm.ok k) True.intro) True.intro) k
noncomputable def laws_eqLitS.l0 : Nat → List (I_Lit) → List (I_Lit) → Int → Option (Bool)
  | 0, _, _, _ => none
  | k + 1, x0, x1, x5 => if x5 < (x0.length : Int) then (if 0 ≤ x5 then (if x5 < (x1.length : Int) then ((laws_eqLit.f k ((rd_I_Lit x0 x5).f0) ((rd_I_Lit x0 x5).f1.f0) ((rd_I_Lit x0 x5).f1.f1) ((rd_I_Lit x0 x5).f1.f2) ((rd_I_Lit x0 x5).f2.f0) ((rd_I_Lit x0 x5).f2.f1) ((rd_I_Lit x0 x5).f2.f2) ((rd_I_Lit x1 x5).f0) ((rd_I_Lit x1 x5).f1.f0) ((rd_I_Lit x1 x5).f1.f1) ((rd_I_Lit x1 x5).f1.f2) ((rd_I_Lit x1 x5).f2.f0) ((rd_I_Lit x1 x5).f2.f1) ((rd_I_Lit x1 x5).f2.f2)).bind fun t1 => (if t1 = true then (laws_eqLitS.l0 k x0 x1 (wrap64 (x5 + 1))) else (some false))) else none) else none) else (some true)
noncomputable def laws_eqLitS.f (k : Nat) (l0 : List (I_Lit)) (l1 : List (I_Lit)) : Option (Bool) := if (l0.length : Int) = (l1.length : Int) then (laws_eqLitS.l0 k l0 l1 0) else (some false)
noncomputable def laws_eqLitS.l0.c : Cut := ⟨[0, 1], [], [(0, .one), (1, .one), (5, .one)], [], [], [.lst (.st 6), .lst (.st 6), .int .i64]⟩
@[reducible] noncomputable def laws_eqLitS.us : List (CutU TT (TupT ST [.bool])) := [⟨4, laws_eqLitS.l0.c, fun k x => laws_eqLitS.l0 k x.1 x.2.1 x.2.2⟩]
noncomputable def laws_eqLitS.ent (k : Nat) : Ent TT := ⟨104, [.one, .one], [.lst (.st 6), .lst (.st 6)], .one, [.bool], fun x => laws_eqLitS.f k x.1 x.2⟩
noncomputable def laws_eqLitS.ents (k : Nat) : Ents TT := ⟨[laws_eqLit.ent k], []⟩
noncomputable def laws_eqLitS.l0.raw (k : Nat) (x0 : List (I_Lit)) (x1 : List (I_Lit)) (x5 : Int) : Option (Bool) := if x5 < (x0.length : Int) then (if 0 ≤ x5 then (if x5 < (x0.length : Int) then (if 0 ≤ x5 then (if x5 < (x1.length : Int) then ((laws_eqLit.f k ((rd_I_Lit x0 x5).f0) ((rd_I_Lit x0 x5).f1.f0) ((rd_I_Lit x0 x5).f1.f1) ((rd_I_Lit x0 x5).f1.f2) ((rd_I_Lit x0 x5).f2.f0) ((rd_I_Lit x0 x5).f2.f1) ((rd_I_Lit x0 x5).f2.f2) ((rd_I_Lit x1 x5).f0) ((rd_I_Lit x1 x5).f1.f0) ((rd_I_Lit x1 x5).f1.f1) ((rd_I_Lit x1 x5).f1.f2) ((rd_I_Lit x1 x5).f2.f0) ((rd_I_Lit x1 x5).f2.f1) ((rd_I_Lit x1 x5).f2.f2)).bind fun t1 => (if (!t1) = true then (some false) else (laws_eqLitS.l0 k x0 x1 (wr .i64 (x5 + 1))))) else none) else none) else none) else none) else (some true)
theorem laws_eqLitS.l0.clean (k : Nat) (x0 : List (I_Lit)) (x1 : List (I_Lit)) (x5 : Int) : laws_eqLitS.l0.raw k x0 x1 x5 = laws_eqLitS.l0 (k + 1) x0 x1 x5 := by
  rw [laws_eqLitS.l0.raw, laws_eqLitS.l0]
  simp only [wr_i64]
  exact ite_congr rfl (fun h0 => ite_congr rfl (fun h1 => Eq.trans (if_pos h0) (Eq.trans (if_pos h1) (ite_congr rfl (fun h2 => bind_cg fun t1 => (ite_nb _ _ _)) (fun h2 => rfl)))) (fun h1 => rfl)) (fun h0 => rfl)
theorem laws_eqLitS.l0.chk (k : Nat) (x : TupT ST [.lst (.st 6), .lst (.st 6), .int .i64]) : runU TT (calOf (laws_eqLitS.ents k)) (jmps laws_eqLitS.us k) (finK Tryz.f104 (retK TT (.one) [.bool])) Tryz.f104 (some 4) (canonC laws_eqLitS.l0.c x) = laws_eqLitS.l0 (k + 1) x.1 x.2.1 x.2.2 := Eq.trans (show _ = laws_eqLitS.l0.raw k x.1 x.2.1 x.2.2 by kernel_rfl) (laws_eqLitS.l0.clean k x.1 x.2.1 x.2.2)
noncomputable def laws_eqLitS.raw (k : Nat) (l0 : List (I_Lit)) (l1 : List (I_Lit)) : Option (Bool) := if ¬ (l0.length : Int) = (l1.length : Int) then (some false) else (laws_eqLitS.l0 k l0 l1 0)
theorem laws_eqLitS.clean (k : Nat) (l0 : List (I_Lit)) (l1 : List (I_Lit)) : laws_eqLitS.raw k l0 l1 = laws_eqLitS.f k l0 l1 := by
  rw [laws_eqLitS.raw, laws_eqLitS.f]
  exact ite_ng _ _
theorem laws_eqLitS.chk (k : Nat) (x : TupT ST [.lst (.st 6), .lst (.st 6)]) : runU TT (calOf (laws_eqLitS.ents k)) (jmps laws_eqLitS.us k) (finK Tryz.f104 (retK TT (.one) [.bool])) Tryz.f104 none (canon (args0 0 (argL [.one, .one] [.lst (.st 6), .lst (.st 6)] x)) []) = laws_eqLitS.f k x.1 x.2 := Eq.trans (show _ = laws_eqLitS.raw k x.1 x.2 by kernel_rfl) (laws_eqLitS.clean k x.1 x.2)
theorem laws_eqLitS.ok (k : Nat) : EntOk Tryz.prog TT (laws_eqLitS.ent k) :=
  fun_of tbl mixed 104 Tryz.f104 Tryz.func104 rfl (by kernel_rfl) [.one, .one] [.lst (.st 6), .lst (.st 6)] (.one) [.bool] (by kernel_rfl) laws_eqLitS.ents laws_eqLitS.us (And.intro (fun _ => rfl) True.intro) (And.intro laws_eqLitS.l0.chk True.intro) (fun k (x : TupT ST [.lst (.st 6), .lst (.st 6)]) => laws_eqLitS.f k x.1 x.2) laws_eqLitS.chk (fun k => EntsOk.mk (And.intro (laws_eqLit.ok k) True.intro) True.intro) k
noncomputable def laws_eqClause.f (k : Nat) (l0_0 : List (I_Lit)) (l1_0 : List (I_Lit)) : Option (Bool) := (laws_eqLitS.f k l0_0 l1_0).bind fun t1 => (if t1 = true then (some true) else (some false))
@[reducible] noncomputable def laws_eqClause.us : List (CutU TT (TupT ST [.bool])) := []
noncomputable def laws_eqClause.ent (k : Nat) : Ent TT := ⟨25, [.agg 1, .agg 1], [.lst (.st 6), .lst (.st 6)], .one, [.bool], fun x => laws_eqClause.f k x.1 x.2⟩
noncomputable def laws_eqClause.ents (k : Nat) : Ents TT := ⟨[laws_eqLitS.ent k], []⟩
noncomputable def laws_eqClause.raw (k : Nat) (l0_0 : List (I_Lit)) (l1_0 : List (I_Lit)) : Option (Bool) := (laws_eqLitS.f k l0_0 l1_0).bind fun t1 => (if (!t1) = true then (some false) else (some true))
theorem laws_eqClause.clean (k : Nat) (l0_0 : List (I_Lit)) (l1_0 : List (I_Lit)) : laws_eqClause.raw k l0_0 l1_0 = laws_eqClause.f k l0_0 l1_0 := by
  rw [laws_eqClause.raw, laws_eqClause.f]
  exact bind_cg fun t1 => (ite_nb _ _ _)
theorem laws_eqClause.chk (k : Nat) (x : TupT ST [.lst (.st 6), .lst (.st 6)]) : runU TT (calOf (laws_eqClause.ents k)) (jmps laws_eqClause.us k) (finK Tryz.f25 (retK TT (.one) [.bool])) Tryz.f25 none (canon (args0 0 (argL [.agg 1, .agg 1] [.lst (.st 6), .lst (.st 6)] x)) []) = laws_eqClause.f k x.1 x.2 := Eq.trans (show _ = laws_eqClause.raw k x.1 x.2 by kernel_rfl) (laws_eqClause.clean k x.1 x.2)
theorem laws_eqClause.ok (k : Nat) : EntOk Tryz.prog TT (laws_eqClause.ent k) :=
  fun_of tbl mixed 25 Tryz.f25 Tryz.func25 rfl (by kernel_rfl) [.agg 1, .agg 1] [.lst (.st 6), .lst (.st 6)] (.one) [.bool] (by kernel_rfl) laws_eqClause.ents laws_eqClause.us True.intro True.intro (fun k (x : TupT ST [.lst (.st 6), .lst (.st 6)]) => laws_eqClause.f k x.1 x.2) laws_eqClause.chk (fun k => EntsOk.mk (And.intro (laws_eqLitS.ok k) True.intro) True.intro) k
noncomputable def laws_szIntS.f (l0 : List (Int)) (a1 : Int) : Option (Int) := if (wrap64 (a1 - (l0.length : Int))) < 0 then (some (-1)) else (some (wrap64 (a1 - (l0.length : Int))))
@[reducible] noncomputable def laws_szIntS.us : List (CutU TT (TupT ST [.int .i64])) := []
noncomputable def laws_szIntS.ent : Ent TT := ⟨218, [.one, .one], [.lst (.int .i64), .int .i64], .one, [.int .i64], fun x => laws_szIntS.f x.1 x.2⟩
noncomputable def laws_szIntS.ents (k : Nat) : Ents TT := ⟨[], []⟩
noncomputable def laws_szIntS.raw (k : Nat) (l0 : List (Int)) (a1 : Int) : Option (Int) := if (wr .i64 (a1 - (l0.length : Int))) < 0 then (some (-1)) else (some (wr .i64 (a1 - (l0.length : Int))))
theorem laws_szIntS.clean (k : Nat) (l0 : List (Int)) (a1 : Int) : laws_szIntS.raw k l0 a1 = laws_szIntS.f l0 a1 := by
  rw [laws_szIntS.raw, laws_szIntS.f]
  simp only [wr_i64]
theorem laws_szIntS.chk (k : Nat) (x : TupT ST [.lst (.int .i64), .int .i64]) : runU TT (calOf (laws_szIntS.ents k)) (jmps laws_szIntS.us k) (finK Tryz.f218 (retK TT (.one) [.int .i64])) Tryz.f218 none (canon (args0 0 (argL [.one, .one] [.lst (.int .i64), .int .i64] x)) []) = laws_szIntS.f x.1 x.2 := Eq.trans (show _ = laws_szIntS.raw k x.1 x.2 by kernel_rfl) (laws_szIntS.clean k x.1 x.2)
theorem laws_szIntS.ok : EntOk Tryz.prog TT (laws_szIntS.ent) :=
  fun_of tbl mixed 218 Tryz.f218 Tryz.func218 rfl (by kernel_rfl) [.one, .one] [.lst (.int .i64), .int .i64] (.one) [.int .i64] (by kernel_rfl) laws_szIntS.ents laws_szIntS.us True.intro True.intro (fun k (x : TupT ST [.lst (.int .i64), .int .i64]) => laws_szIntS.f x.1 x.2) laws_szIntS.chk (fun k => EntsOk.mk True.intro True.intro) 0
noncomputable def laws_szIntSS.l0 : Nat → List (List (Int)) → Int → Int → Option (Int)
  | 0, _, _, _ => none
  | k + 1, x0, x1, x5 => if x5 < (x0.length : Int) then (if 0 ≤ x5 then ((laws_szIntS.f (rd_Ls_i64 x0 x5) x1).bind fun t1 => (if t1 < 0 then (some (-1)) else (laws_szIntSS.l0 k x0 t1 (wrap64 (x5 + 1))))) else none) else (some x1)
noncomputable def laws_szIntSS.f (k : Nat) (l0 : List (List (Int))) (a1 : Int) : Option (Int) := if (wrap64 (a1 - (l0.length : Int))) < 0 then (some (-1)) else (laws_szIntSS.l0 k l0 (wrap64 (a1 - (l0.length : Int))) 0)
noncomputable def laws_szIntSS.l0.c : Cut := ⟨[0], [], [(0, .one), (1, .one), (5, .one)], [], [], [.lst (.lst (.int .i64)), .int .i64, .int .i64]⟩
@[reducible] noncomputable def laws_szIntSS.us : List (CutU TT (TupT ST [.int .i64])) := [⟨5, laws_szIntSS.l0.c, fun k x => laws_szIntSS.l0 k x.1 x.2.1 x.2.2⟩]
noncomputable def laws_szIntSS.ent (k : Nat) : Ent TT := ⟨93, [.one, .one], [.lst (.lst (.int .i64)), .int .i64], .one, [.int .i64], fun x => laws_szIntSS.f k x.1 x.2⟩
noncomputable def laws_szIntSS.ents (k : Nat) : Ents TT := ⟨[laws_szIntS.ent], []⟩
noncomputable def laws_szIntSS.l0.raw (k : Nat) (x0 : List (List (Int))) (x1 : Int) (x5 : Int) : Option (Int) := if x5 < (x0.length : Int) then (if 0 ≤ x5 then (if x5 < (x0.length : Int) then ((laws_szIntS.f (rd_Ls_i64 x0 x5) x1).bind fun t1 => (if t1 < 0 then (some (-1)) else (laws_szIntSS.l0 k x0 t1 (wr .i64 (x5 + 1))))) else none) else none) else (some x1)
theorem laws_szIntSS.l0.clean (k : Nat) (x0 : List (List (Int))) (x1 : Int) (x5 : Int) : laws_szIntSS.l0.raw k x0 x1 x5 = laws_szIntSS.l0 (k + 1) x0 x1 x5 := by
  rw [laws_szIntSS.l0.raw, laws_szIntSS.l0]
  simp only [wr_i64]
  exact ite_congr rfl (fun h0 => ite_congr rfl (fun h1 => if_pos h0) (fun h1 => rfl)) (fun h0 => rfl)
theorem laws_szIntSS.l0.chk (k : Nat) (x : TupT ST [.lst (.lst (.int .i64)), .int .i64, .int .i64]) : runU TT (calOf (laws_szIntSS.ents k)) (jmps laws_szIntSS.us k) (finK Tryz.f93 (retK TT (.one) [.int .i64])) Tryz.f93 (some 5) (canonC laws_szIntSS.l0.c x) = laws_szIntSS.l0 (k + 1) x.1 x.2.1 x.2.2 := Eq.trans (show _ = laws_szIntSS.l0.raw k x.1 x.2.1 x.2.2 by kernel_rfl) (laws_szIntSS.l0.clean k x.1 x.2.1 x.2.2)
noncomputable def laws_szIntSS.raw (k : Nat) (l0 : List (List (Int))) (a1 : Int) : Option (Int) := if (wr .i64 (a1 - (l0.length : Int))) < 0 then (some (-1)) else (laws_szIntSS.l0 k l0 (wr .i64 (a1 - (l0.length : Int))) 0)
theorem laws_szIntSS.clean (k : Nat) (l0 : List (List (Int))) (a1 : Int) : laws_szIntSS.raw k l0 a1 = laws_szIntSS.f k l0 a1 := by
  rw [laws_szIntSS.raw, laws_szIntSS.f]
  simp only [wr_i64]
theorem laws_szIntSS.chk (k : Nat) (x : TupT ST [.lst (.lst (.int .i64)), .int .i64]) : runU TT (calOf (laws_szIntSS.ents k)) (jmps laws_szIntSS.us k) (finK Tryz.f93 (retK TT (.one) [.int .i64])) Tryz.f93 none (canon (args0 0 (argL [.one, .one] [.lst (.lst (.int .i64)), .int .i64] x)) []) = laws_szIntSS.f k x.1 x.2 := Eq.trans (show _ = laws_szIntSS.raw k x.1 x.2 by kernel_rfl) (laws_szIntSS.clean k x.1 x.2)
theorem laws_szIntSS.ok (k : Nat) : EntOk Tryz.prog TT (laws_szIntSS.ent k) :=
  fun_of tbl mixed 93 Tryz.f93 Tryz.func93 rfl (by kernel_rfl) [.one, .one] [.lst (.lst (.int .i64)), .int .i64] (.one) [.int .i64] (by kernel_rfl) laws_szIntSS.ents laws_szIntSS.us (And.intro (fun _ => rfl) True.intro) (And.intro laws_szIntSS.l0.chk True.intro) (fun k (x : TupT ST [.lst (.lst (.int .i64)), .int .i64]) => laws_szIntSS.f k x.1 x.2) laws_szIntSS.chk (fun k => EntsOk.mk (And.intro laws_szIntS.ok True.intro) True.intro) k
noncomputable def laws_szWorld.f (k : Nat) (a0_0 : Int) (l0_1 : List (List (Int))) (a1 : Int) : Option (Int) := (laws_szIntSS.f k l0_1 a1).bind fun t1 => (if t1 < 0 then (some (-1)) else (some t1))
@[reducible] noncomputable def laws_szWorld.us : List (CutU TT (TupT ST [.int .i64])) := []
noncomputable def laws_szWorld.ent (k : Nat) : Ent TT := ⟨26, [.agg 2, .one], [.int .i64, .lst (.lst (.int .i64)), .int .i64], .one, [.int .i64], fun x => laws_szWorld.f k x.1 x.2.1 x.2.2⟩
noncomputable def laws_szWorld.ents (k : Nat) : Ents TT := ⟨[laws_szIntSS.ent k], []⟩
theorem laws_szWorld.chk (k : Nat) (x : TupT ST [.int .i64, .lst (.lst (.int .i64)), .int .i64]) : runU TT (calOf (laws_szWorld.ents k)) (jmps laws_szWorld.us k) (finK Tryz.f26 (retK TT (.one) [.int .i64])) Tryz.f26 none (canon (args0 0 (argL [.agg 2, .one] [.int .i64, .lst (.lst (.int .i64)), .int .i64] x)) []) = laws_szWorld.f k x.1 x.2.1 x.2.2 := by kernel_rfl
theorem laws_szWorld.ok (k : Nat) : EntOk Tryz.prog TT (laws_szWorld.ent k) :=
  fun_of tbl mixed 26 Tryz.f26 Tryz.func26 rfl (by kernel_rfl) [.agg 2, .one] [.int .i64, .lst (.lst (.int .i64)), .int .i64] (.one) [.int .i64] (by kernel_rfl) laws_szWorld.ents laws_szWorld.us True.intro True.intro (fun k (x : TupT ST [.int .i64, .lst (.lst (.int .i64)), .int .i64]) => laws_szWorld.f k x.1 x.2.1 x.2.2) laws_szWorld.chk (fun k => EntsOk.mk (And.intro (laws_szIntSS.ok k) True.intro) True.intro) k
noncomputable def spec_l24Power.l0 : Nat → Int → Int → Int → Int → Option (Int)
  | 0, _, _, _, _ => none
  | k + 1, x0, x1, x5, x6 => if x6 < x1 then (spec_l24Power.l0 k x0 x1 (wrap64 (x5 * x0)) (wrap64 (x6 + 1))) else (some x5)
noncomputable def spec_l24Power.f (k : Nat) (a0 : Int) (a1 : Int) : Option (Int) := spec_l24Power.l0 k a0 a1 1 0
noncomputable def spec_l24Power.l0.c : Cut := ⟨[], [], [(0, .one), (1, .one), (5, .one), (6, .one)], [], [], [.int .i64, .int .i64, .int .i64, .int .i64]⟩
@[reducible] noncomputable def spec_l24Power.us : List (CutU TT (TupT ST [.int .i64])) := [⟨3, spec_l24Power.l0.c, fun k x => spec_l24Power.l0 k x.1 x.2.1 x.2.2.1 x.2.2.2⟩]
noncomputable def spec_l24Power.ent (k : Nat) : Ent TT := ⟨105, [.one, .one], [.int .i64, .int .i64], .one, [.int .i64], fun x => spec_l24Power.f k x.1 x.2⟩
noncomputable def spec_l24Power.ents (k : Nat) : Ents TT := ⟨[], []⟩
noncomputable def spec_l24Power.l0.raw (k : Nat) (x0 : Int) (x1 : Int) (x5 : Int) (x6 : Int) : Option (Int) := if x6 < x1 then (spec_l24Power.l0 k x0 x1 (wr .i64 (x5 * x0)) (wr .i64 (x6 + 1))) else (some x5)
theorem spec_l24Power.l0.clean (k : Nat) (x0 : Int) (x1 : Int) (x5 : Int) (x6 : Int) : spec_l24Power.l0.raw k x0 x1 x5 x6 = spec_l24Power.l0 (k + 1) x0 x1 x5 x6 := by
  rw [spec_l24Power.l0.raw, spec_l24Power.l0]
  simp only [wr_i64]
theorem spec_l24Power.l0.chk (k : Nat) (x : TupT ST [.int .i64, .int .i64, .int .i64, .int .i64]) : runU TT (calOf (spec_l24Power.ents k)) (jmps spec_l24Power.us k) (finK Tryz.f105 (retK TT (.one) [.int .i64])) Tryz.f105 (some 3) (canonC spec_l24Power.l0.c x) = spec_l24Power.l0 (k + 1) x.1 x.2.1 x.2.2.1 x.2.2.2 := Eq.trans (show _ = spec_l24Power.l0.raw k x.1 x.2.1 x.2.2.1 x.2.2.2 by kernel_rfl) (spec_l24Power.l0.clean k x.1 x.2.1 x.2.2.1 x.2.2.2)
theorem spec_l24Power.chk (k : Nat) (x : TupT ST [.int .i64, .int .i64]) : runU TT (calOf (spec_l24Power.ents k)) (jmps spec_l24Power.us k) (finK Tryz.f105 (retK TT (.one) [.int .i64])) Tryz.f105 none (canon (args0 0 (argL [.one, .one] [.int .i64, .int .i64] x)) []) = spec_l24Power.f k x.1 x.2 := by kernel_rfl
theorem spec_l24Power.ok (k : Nat) : EntOk Tryz.prog TT (spec_l24Power.ent k) :=
  fun_of tbl mixed 105 Tryz.f105 Tryz.func105 rfl (by kernel_rfl) [.one, .one] [.int .i64, .int .i64] (.one) [.int .i64] (by kernel_rfl) spec_l24Power.ents spec_l24Power.us (And.intro (fun _ => rfl) True.intro) (And.intro spec_l24Power.l0.chk True.intro) (fun k (x : TupT ST [.int .i64, .int .i64]) => spec_l24Power.f k x.1 x.2) spec_l24Power.chk (fun k => EntsOk.mk True.intro True.intro) k
noncomputable def spec_l1In.f (a0 : Int) (a1 : Int) (a2 : Int) : Option (Bool) := if a0 ≥ a1 then (some (decide (a0 ≤ a2))) else (some false)
@[reducible] noncomputable def spec_l1In.us : List (CutU TT (TupT ST [.bool])) := []
noncomputable def spec_l1In.ent : Ent TT := ⟨123, [.one, .one, .one], [.int .i64, .int .i64, .int .i64], .one, [.bool], fun x => spec_l1In.f x.1 x.2.1 x.2.2⟩
noncomputable def spec_l1In.ents (k : Nat) : Ents TT := ⟨[], []⟩
theorem spec_l1In.chk (k : Nat) (x : TupT ST [.int .i64, .int .i64, .int .i64]) : runU TT (calOf (spec_l1In.ents k)) (jmps spec_l1In.us k) (finK Tryz.f123 (retK TT (.one) [.bool])) Tryz.f123 none (canon (args0 0 (argL [.one, .one, .one] [.int .i64, .int .i64, .int .i64] x)) []) = spec_l1In.f x.1 x.2.1 x.2.2 := by kernel_rfl
theorem spec_l1In.ok : EntOk Tryz.prog TT (spec_l1In.ent) :=
  fun_of tbl mixed 123 Tryz.f123 Tryz.func123 rfl (by kernel_rfl) [.one, .one, .one] [.int .i64, .int .i64, .int .i64] (.one) [.bool] (by kernel_rfl) spec_l1In.ents spec_l1In.us True.intro True.intro (fun k (x : TupT ST [.int .i64, .int .i64, .int .i64]) => spec_l1In.f x.1 x.2.1 x.2.2) spec_l1In.chk (fun k => EntsOk.mk True.intro True.intro) 0
noncomputable def spec_NameOk.l0 : Nat → ByteArray → Int → Option (Bool)
  | 0, _, _ => none
  | k + 1, x0, x3 => if x3 < (x0.size : Int) then (if 0 ≤ x3 then (if (bt x0 x3) ≥ 97 then (if (bt x0 x3) ≤ 122 then (spec_NameOk.l0 k x0 (wrap64 (x3 + 1))) else (if x3 > 0 then (if (bt x0 x3) ≥ 48 then (if (bt x0 x3) ≤ 57 then (spec_NameOk.l0 k x0 (wrap64 (x3 + 1))) else (some false)) else (some false)) else (some false))) else (if x3 > 0 then (if (bt x0 x3) ≥ 48 then (if (bt x0 x3) ≤ 57 then (spec_NameOk.l0 k x0 (wrap64 (x3 + 1))) else (some false)) else (some false)) else (some false))) else none) else ((spec_l1In.f (x0.size : Int) 1 8).bind fun t1 => (some t1))
noncomputable def spec_NameOk.f (k : Nat) (a0 : ByteArray) : Option (Bool) := spec_NameOk.l0 k a0 0
noncomputable def spec_NameOk.l0.c : Cut := ⟨[], [], [(0, .one), (3, .one)], [], [], [.str, .int .i64]⟩
@[reducible] noncomputable def spec_NameOk.us : List (CutU TT (TupT ST [.bool])) := [⟨2, spec_NameOk.l0.c, fun k x => spec_NameOk.l0 k x.1 x.2⟩]
noncomputable def spec_NameOk.ent (k : Nat) : Ent TT := ⟨238, [.one], [.str], .one, [.bool], fun x => spec_NameOk.f k x⟩
noncomputable def spec_NameOk.ents (k : Nat) : Ents TT := ⟨[spec_l1In.ent], []⟩
noncomputable def spec_NameOk.l0.raw (k : Nat) (x0 : ByteArray) (x3 : Int) : Option (Bool) := if x3 < (x0.size : Int) then (if 0 ≤ x3 then (if x3 < (x0.size : Int) then (if (bt x0 x3) ≥ 97 then (if 0 ≤ x3 then (if x3 < (x0.size : Int) then (if (bt x0 x3) ≤ 122 then (spec_NameOk.l0 k x0 (wr .i64 (x3 + 1))) else (if x3 > 0 then (if 0 ≤ x3 then (if x3 < (x0.size : Int) then (if (bt x0 x3) ≥ 48 then (if 0 ≤ x3 then (if x3 < (x0.size : Int) then (if ¬ ((bt x0 x3) ≤ 57) then (some false) else (spec_NameOk.l0 k x0 (wr .i64 (x3 + 1)))) else none) else none) else (some false)) else none) else none) else (some false))) else none) else none) else (if x3 > 0 then (if 0 ≤ x3 then (if x3 < (x0.size : Int) then (if (bt x0 x3) ≥ 48 then (if 0 ≤ x3 then (if x3 < (x0.size : Int) then (if ¬ ((bt x0 x3) ≤ 57) then (some false) else (spec_NameOk.l0 k x0 (wr .i64 (x3 + 1)))) else none) else none) else (some false)) else none) else none) else (some false))) else none) else none) else ((spec_l1In.f (x0.size : Int) 1 8).bind fun t1 => (some t1))
theorem spec_NameOk.l0.clean (k : Nat) (x0 : ByteArray) (x3 : Int) : spec_NameOk.l0.raw k x0 x3 = spec_NameOk.l0 (k + 1) x0 x3 := by
  rw [spec_NameOk.l0.raw, spec_NameOk.l0]
  simp only [wr_i64]
  exact ite_congr rfl (fun h0 => ite_congr rfl (fun h1 => Eq.trans (if_pos h0) (ite_congr rfl (fun h2 => Eq.trans (if_pos h1) (Eq.trans (if_pos h0) (ite_congr rfl (fun h3 => rfl) (fun h3 => ite_congr rfl (fun h4 => Eq.trans (if_pos h1) (Eq.trans (if_pos h0) (ite_congr rfl (fun h5 => Eq.trans (if_pos h1) (Eq.trans (if_pos h0) (ite_ng _ _))) (fun h5 => rfl)))) (fun h4 => rfl))))) (fun h2 => ite_congr rfl (fun h3 => Eq.trans (if_pos h1) (Eq.trans (if_pos h0) (ite_congr rfl (fun h4 => Eq.trans (if_pos h1) (Eq.trans (if_pos h0) (ite_ng _ _))) (fun h4 => rfl)))) (fun h3 => rfl)))) (fun h1 => rfl)) (fun h0 => rfl)
theorem spec_NameOk.l0.chk (k : Nat) (x : TupT ST [.str, .int .i64]) : runU TT (calOf (spec_NameOk.ents k)) (jmps spec_NameOk.us k) (finK Tryz.f238 (retK TT (.one) [.bool])) Tryz.f238 (some 2) (canonC spec_NameOk.l0.c x) = spec_NameOk.l0 (k + 1) x.1 x.2 := Eq.trans (show _ = spec_NameOk.l0.raw k x.1 x.2 by kernel_rfl) (spec_NameOk.l0.clean k x.1 x.2)
theorem spec_NameOk.chk (k : Nat) (x : TupT ST [.str]) : runU TT (calOf (spec_NameOk.ents k)) (jmps spec_NameOk.us k) (finK Tryz.f238 (retK TT (.one) [.bool])) Tryz.f238 none (canon (args0 0 (argL [.one] [.str] x)) []) = spec_NameOk.f k x := by kernel_rfl
theorem spec_NameOk.ok (k : Nat) : EntOk Tryz.prog TT (spec_NameOk.ent k) :=
  fun_of tbl mixed 238 Tryz.f238 Tryz.func238 rfl (by kernel_rfl) [.one] [.str] (.one) [.bool] (by kernel_rfl) spec_NameOk.ents spec_NameOk.us (And.intro (fun _ => rfl) True.intro) (And.intro spec_NameOk.l0.chk True.intro) (fun k (x : TupT ST [.str]) => spec_NameOk.f k x) spec_NameOk.chk (fun k => EntsOk.mk (And.intro spec_l1In.ok True.intro) True.intro) k
noncomputable def spec_SymOf.l0 : Nat → List (I_Sym) → ByteArray → Int → Option (Int)
  | 0, _, _, _ => none
  | k + 1, x0, x1, x5 => if x5 < (x0.length : Int) then (if 0 ≤ x5 then (if ((rd_I_Sym x0 x5).f0) = x1 then (some x5) else (spec_SymOf.l0 k x0 x1 (wrap64 (x5 + 1)))) else none) else (some (-1))
noncomputable def spec_SymOf.f (k : Nat) (l0 : List (I_Sym)) (a1 : ByteArray) : Option (Int) := spec_SymOf.l0 k l0 a1 0
noncomputable def spec_SymOf.l0.c : Cut := ⟨[0], [], [(0, .one), (1, .one), (5, .one)], [], [], [.lst (.st 4), .str, .int .i64]⟩
@[reducible] noncomputable def spec_SymOf.us : List (CutU TT (TupT ST [.int .i64])) := [⟨2, spec_SymOf.l0.c, fun k x => spec_SymOf.l0 k x.1 x.2.1 x.2.2⟩]
noncomputable def spec_SymOf.ent (k : Nat) : Ent TT := ⟨239, [.one, .one], [.lst (.st 4), .str], .one, [.int .i64], fun x => spec_SymOf.f k x.1 x.2⟩
noncomputable def spec_SymOf.ents (k : Nat) : Ents TT := ⟨[], []⟩
noncomputable def spec_SymOf.l0.raw (k : Nat) (x0 : List (I_Sym)) (x1 : ByteArray) (x5 : Int) : Option (Int) := if x5 < (x0.length : Int) then (if 0 ≤ x5 then (if x5 < (x0.length : Int) then (if ((rd_I_Sym x0 x5).f0) = x1 then (some x5) else (spec_SymOf.l0 k x0 x1 (wr .i64 (x5 + 1)))) else none) else none) else (some (-1))
theorem spec_SymOf.l0.clean (k : Nat) (x0 : List (I_Sym)) (x1 : ByteArray) (x5 : Int) : spec_SymOf.l0.raw k x0 x1 x5 = spec_SymOf.l0 (k + 1) x0 x1 x5 := by
  rw [spec_SymOf.l0.raw, spec_SymOf.l0]
  simp only [wr_i64]
  exact ite_congr rfl (fun h0 => ite_congr rfl (fun h1 => if_pos h0) (fun h1 => rfl)) (fun h0 => rfl)
theorem spec_SymOf.l0.chk (k : Nat) (x : TupT ST [.lst (.st 4), .str, .int .i64]) : runU TT (calOf (spec_SymOf.ents k)) (jmps spec_SymOf.us k) (finK Tryz.f239 (retK TT (.one) [.int .i64])) Tryz.f239 (some 2) (canonC spec_SymOf.l0.c x) = spec_SymOf.l0 (k + 1) x.1 x.2.1 x.2.2 := Eq.trans (show _ = spec_SymOf.l0.raw k x.1 x.2.1 x.2.2 by kernel_rfl) (spec_SymOf.l0.clean k x.1 x.2.1 x.2.2)
theorem spec_SymOf.chk (k : Nat) (x : TupT ST [.lst (.st 4), .str]) : runU TT (calOf (spec_SymOf.ents k)) (jmps spec_SymOf.us k) (finK Tryz.f239 (retK TT (.one) [.int .i64])) Tryz.f239 none (canon (args0 0 (argL [.one, .one] [.lst (.st 4), .str] x)) []) = spec_SymOf.f k x.1 x.2 := by kernel_rfl
theorem spec_SymOf.ok (k : Nat) : EntOk Tryz.prog TT (spec_SymOf.ent k) :=
  fun_of tbl mixed 239 Tryz.f239 Tryz.func239 rfl (by kernel_rfl) [.one, .one] [.lst (.st 4), .str] (.one) [.int .i64] (by kernel_rfl) spec_SymOf.ents spec_SymOf.us (And.intro (fun _ => rfl) True.intro) (And.intro spec_SymOf.l0.chk True.intro) (fun k (x : TupT ST [.lst (.st 4), .str]) => spec_SymOf.f k x.1 x.2) spec_SymOf.chk (fun k => EntsOk.mk True.intro True.intro) k
noncomputable def spec_SigOk.l0 : Nat → List (I_Sym) → Int → Option (Bool)
  | 0, _, _ => none
  | k + 1, x0, x3 => if x3 < (x0.length : Int) then (if 0 ≤ x3 then ((spec_NameOk.f k ((rd_I_Sym x0 x3).f0)).bind fun t1 => (if t1 = true then ((spec_SymOf.f k x0 ((rd_I_Sym x0 x3).f0)).bind fun t2 => (if t2 = x3 then ((spec_l1In.f ((rd_I_Sym x0 x3).f1) 0 3).bind fun t3 => (if t3 = true then (if ((rd_I_Sym x0 x3).f2) = true then (if ((rd_I_Sym x0 x3).f1) = 2 then (spec_SigOk.l0 k x0 (wrap64 (x3 + 1))) else (some false)) else (spec_SigOk.l0 k x0 (wrap64 (x3 + 1)))) else (some false))) else (some false))) else (some false))) else none) else ((spec_l1In.f (x0.length : Int) 1 8).bind fun t4 => (if t4 = true then (if 0 < (x0.length : Int) then (some (decide (((rd_I_Sym x0 0).f0) = (⟨#[116, 116]⟩ : ByteArray)) && (decide (((rd_I_Sym x0 0).f1) = 0) && (decide (((rd_I_Sym x0 0).f2) = false) && true)))) else none) else (some false)))
noncomputable def spec_SigOk.f (k : Nat) (l0 : List (I_Sym)) : Option (Bool) := spec_SigOk.l0 k l0 0
noncomputable def spec_SigOk.l0.c : Cut := ⟨[0], [], [(0, .one), (3, .one)], [], [], [.lst (.st 4), .int .i64]⟩
@[reducible] noncomputable def spec_SigOk.us : List (CutU TT (TupT ST [.bool])) := [⟨2, spec_SigOk.l0.c, fun k x => spec_SigOk.l0 k x.1 x.2⟩]
noncomputable def spec_SigOk.ent (k : Nat) : Ent TT := ⟨122, [.one], [.lst (.st 4)], .one, [.bool], fun x => spec_SigOk.f k x⟩
noncomputable def spec_SigOk.ents (k : Nat) : Ents TT := ⟨[spec_NameOk.ent k, spec_SymOf.ent k, spec_l1In.ent], []⟩
noncomputable def spec_SigOk.l0.raw (k : Nat) (x0 : List (I_Sym)) (x3 : Int) : Option (Bool) := if x3 < (x0.length : Int) then (if 0 ≤ x3 then (if x3 < (x0.length : Int) then ((spec_NameOk.f k ((rd_I_Sym x0 x3).f0)).bind fun t1 => (if (!t1) = true then (some false) else (if 0 ≤ x3 then (if x3 < (x0.length : Int) then ((spec_SymOf.f k x0 ((rd_I_Sym x0 x3).f0)).bind fun t2 => (if ¬ t2 = x3 then (some false) else (if 0 ≤ x3 then (if x3 < (x0.length : Int) then ((spec_l1In.f ((rd_I_Sym x0 x3).f1) 0 3).bind fun t3 => (if (!t3) = true then (some false) else (if 0 ≤ x3 then (if x3 < (x0.length : Int) then (if ((rd_I_Sym x0 x3).f2) = true then (if 0 ≤ x3 then (if x3 < (x0.length : Int) then (if ¬ ((rd_I_Sym x0 x3).f1) = 2 then (some false) else (spec_SigOk.l0 k x0 (wr .i64 (x3 + 1)))) else none) else none) else (spec_SigOk.l0 k x0 (wr .i64 (x3 + 1)))) else none) else none))) else none) else none))) else none) else none))) else none) else none) else ((spec_l1In.f (x0.length : Int) 1 8).bind fun t4 => (if t4 = true then (if (0 : Int) ≤ 0 then (if 0 < (x0.length : Int) then (some (decide (((rd_I_Sym x0 0).f0) = (⟨#[116, 116]⟩ : ByteArray)) && (decide (((rd_I_Sym x0 0).f1) = 0) && (decide (((rd_I_Sym x0 0).f2) = false) && true)))) else none) else none) else (some false)))
theorem spec_SigOk.l0.clean (k : Nat) (x0 : List (I_Sym)) (x3 : Int) : spec_SigOk.l0.raw k x0 x3 = spec_SigOk.l0 (k + 1) x0 x3 := by
  rw [spec_SigOk.l0.raw, spec_SigOk.l0]
  simp only [wr_i64]
  exact ite_congr rfl (fun h0 => ite_congr rfl (fun h1 => Eq.trans (if_pos h0) (bind_cg fun t1 => (Eq.trans (ite_nb _ _ _) (ite_congr rfl (fun h2 => Eq.trans (if_pos h1) (Eq.trans (if_pos h0) (bind_cg fun t2 => (Eq.trans (ite_ng _ _) (ite_congr rfl (fun h3 => Eq.trans (if_pos h1) (Eq.trans (if_pos h0) (bind_cg fun t3 => (Eq.trans (ite_nb _ _ _) (ite_congr rfl (fun h4 => Eq.trans (if_pos h1) (Eq.trans (if_pos h0) (ite_congr rfl (fun h5 => Eq.trans (if_pos h1) (Eq.trans (if_pos h0) (ite_ng _ _))) (fun h5 => rfl)))) (fun h4 => rfl)))))) (fun h3 => rfl)))))) (fun h2 => rfl))))) (fun h1 => rfl)) (fun h0 => bind_cg fun t4 => (ite_congr rfl (fun h1 => if_pos (by decide)) (fun h1 => rfl)))
theorem spec_SigOk.l0.chk (k : Nat) (x : TupT ST [.lst (.st 4), .int .i64]) : runU TT (calOf (spec_SigOk.ents k)) (jmps spec_SigOk.us k) (finK Tryz.f122 (retK TT (.one) [.bool])) Tryz.f122 (some 2) (canonC spec_SigOk.l0.c x) = spec_SigOk.l0 (k + 1) x.1 x.2 := Eq.trans (show _ = spec_SigOk.l0.raw k x.1 x.2 by kernel_rfl) (spec_SigOk.l0.clean k x.1 x.2)
theorem spec_SigOk.chk (k : Nat) (x : TupT ST [.lst (.st 4)]) : runU TT (calOf (spec_SigOk.ents k)) (jmps spec_SigOk.us k) (finK Tryz.f122 (retK TT (.one) [.bool])) Tryz.f122 none (canon (args0 0 (argL [.one] [.lst (.st 4)] x)) []) = spec_SigOk.f k x := by kernel_rfl
theorem spec_SigOk.ok (k : Nat) : EntOk Tryz.prog TT (spec_SigOk.ent k) :=
  fun_of tbl mixed 122 Tryz.f122 Tryz.func122 rfl (by kernel_rfl) [.one] [.lst (.st 4)] (.one) [.bool] (by kernel_rfl) spec_SigOk.ents spec_SigOk.us (And.intro (fun _ => rfl) True.intro) (And.intro spec_SigOk.l0.chk True.intro) (fun k (x : TupT ST [.lst (.st 4)]) => spec_SigOk.f k x) spec_SigOk.chk (fun k => EntsOk.mk (And.intro (spec_NameOk.ok k) (And.intro (spec_SymOf.ok k) (And.intro spec_l1In.ok True.intro))) True.intro) k
noncomputable def spec_l24Two.f (a0_0 : Int) (l0_1 : List (List (Int))) (a1 : Int) (a2 : Int) (a3 : Int) : Option (Int) := if 0 ≤ a1 then (if a1 < (l0_1.length : Int) then (if 0 ≤ (wrap64 (a2 + (wrap64 (a0_0 * a3)))) then (if (wrap64 (a2 + (wrap64 (a0_0 * a3)))) < ((rd_Ls_i64 l0_1 a1).length : Int) then (some (rd (rd_Ls_i64 l0_1 a1) (wrap64 (a2 + (wrap64 (a0_0 * a3)))))) else none) else none) else none) else none
@[reducible] noncomputable def spec_l24Two.us : List (CutU TT (TupT ST [.int .i64])) := []
noncomputable def spec_l24Two.ent : Ent TT := ⟨248, [.agg 2, .one, .one, .one], [.int .i64, .lst (.lst (.int .i64)), .int .i64, .int .i64, .int .i64], .one, [.int .i64], fun x => spec_l24Two.f x.1 x.2.1 x.2.2.1 x.2.2.2.1 x.2.2.2.2⟩
noncomputable def spec_l24Two.ents (k : Nat) : Ents TT := ⟨[], []⟩
noncomputable def spec_l24Two.raw (k : Nat) (a0_0 : Int) (l0_1 : List (List (Int))) (a1 : Int) (a2 : Int) (a3 : Int) : Option (Int) := if 0 ≤ a1 then (if a1 < (l0_1.length : Int) then (if 0 ≤ (wr .i64 (a2 + (wr .i64 (a0_0 * a3)))) then (if (wr .i64 (a2 + (wr .i64 (a0_0 * a3)))) < ((rd_Ls_i64 l0_1 a1).length : Int) then (some (rd (rd_Ls_i64 l0_1 a1) (wr .i64 (a2 + (wr .i64 (a0_0 * a3)))))) else none) else none) else none) else none
theorem spec_l24Two.clean (k : Nat) (a0_0 : Int) (l0_1 : List (List (Int))) (a1 : Int) (a2 : Int) (a3 : Int) : spec_l24Two.raw k a0_0 l0_1 a1 a2 a3 = spec_l24Two.f a0_0 l0_1 a1 a2 a3 := by
  rw [spec_l24Two.raw, spec_l24Two.f]
  simp only [wr_i64]
theorem spec_l24Two.chk (k : Nat) (x : TupT ST [.int .i64, .lst (.lst (.int .i64)), .int .i64, .int .i64, .int .i64]) : runU TT (calOf (spec_l24Two.ents k)) (jmps spec_l24Two.us k) (finK Tryz.f248 (retK TT (.one) [.int .i64])) Tryz.f248 none (canon (args0 0 (argL [.agg 2, .one, .one, .one] [.int .i64, .lst (.lst (.int .i64)), .int .i64, .int .i64, .int .i64] x)) []) = spec_l24Two.f x.1 x.2.1 x.2.2.1 x.2.2.2.1 x.2.2.2.2 := Eq.trans (show _ = spec_l24Two.raw k x.1 x.2.1 x.2.2.1 x.2.2.2.1 x.2.2.2.2 by kernel_rfl) (spec_l24Two.clean k x.1 x.2.1 x.2.2.1 x.2.2.2.1 x.2.2.2.2)
theorem spec_l24Two.ok : EntOk Tryz.prog TT (spec_l24Two.ent) :=
  fun_of tbl mixed 248 Tryz.f248 Tryz.func248 rfl (by kernel_rfl) [.agg 2, .one, .one, .one] [.int .i64, .lst (.lst (.int .i64)), .int .i64, .int .i64, .int .i64] (.one) [.int .i64] (by kernel_rfl) spec_l24Two.ents spec_l24Two.us True.intro True.intro (fun k (x : TupT ST [.int .i64, .lst (.lst (.int .i64)), .int .i64, .int .i64, .int .i64]) => spec_l24Two.f x.1 x.2.1 x.2.2.1 x.2.2.2.1 x.2.2.2.2) spec_l24Two.chk (fun k => EntsOk.mk True.intro True.intro) 0
mutual
noncomputable def spec_l24Blind.l0 : Nat → Int → Int → Int → List (List (Int)) → Option (Bool)
  | 0, _, _, _, _ => none
  | k + 1, x1, x5, b2_0, b2_1 => if x5 < b2_0 then (spec_l24Blind.l1 k x1 x5 0 b2_0 b2_1) else (some true)
noncomputable def spec_l24Blind.l1 : Nat → Int → Int → Int → Int → List (List (Int)) → Option (Bool)
  | 0, _, _, _, _, _ => none
  | k + 1, x1, x5, x6, b2_0, b2_1 => if x6 < b2_0 then ((spec_l24Two.f b2_0 b2_1 x1 x5 x6).bind fun t1 => ((spec_l24Two.f b2_0 b2_1 x1 x6 x5).bind fun t2 => (if t1 = t2 then (spec_l24Blind.l2 k x1 x5 x6 0 b2_0 b2_1) else (some false)))) else (spec_l24Blind.l0 k x1 (wrap64 (x5 + 1)) b2_0 b2_1)
noncomputable def spec_l24Blind.l2 : Nat → Int → Int → Int → Int → Int → List (List (Int)) → Option (Bool)
  | 0, _, _, _, _, _, _ => none
  | k + 1, x1, x5, x6, x7, b2_0, b2_1 => if x7 < b2_0 then ((spec_l24Two.f b2_0 b2_1 x1 x5 x6).bind fun t3 => ((spec_l24Two.f b2_0 b2_1 x1 t3 x7).bind fun t4 => ((spec_l24Two.f b2_0 b2_1 x1 x6 x7).bind fun t5 => ((spec_l24Two.f b2_0 b2_1 x1 x5 t5).bind fun t6 => (if t4 = t6 then (spec_l24Blind.l2 k x1 x5 x6 (wrap64 (x7 + 1)) b2_0 b2_1) else (some false)))))) else (spec_l24Blind.l1 k x1 x5 (wrap64 (x6 + 1)) b2_0 b2_1)
end
noncomputable def spec_l24Blind.f (k : Nat) (a0_0 : Int) (l0_1 : List (List (Int))) (a1 : Int) : Option (Bool) := spec_l24Blind.l0 k a1 0 a0_0 l0_1
noncomputable def spec_l24Blind.l0.c : Cut := ⟨[], [(2, 1)], [(1, .one), (2, .ptr 2 0), (5, .one)], [(2, [.one, .one])], [], [.int .i64, .int .i64, .int .i64, .lst (.lst (.int .i64))]⟩
noncomputable def spec_l24Blind.l1.c : Cut := ⟨[], [(2, 1)], [(1, .one), (2, .ptr 2 0), (5, .one), (6, .one)], [(2, [.one, .one])], [], [.int .i64, .int .i64, .int .i64, .int .i64, .lst (.lst (.int .i64))]⟩
noncomputable def spec_l24Blind.l2.c : Cut := ⟨[], [(2, 1)], [(1, .one), (2, .ptr 2 0), (5, .one), (6, .one), (7, .one)], [(2, [.one, .one])], [], [.int .i64, .int .i64, .int .i64, .int .i64, .int .i64, .lst (.lst (.int .i64))]⟩
@[reducible] noncomputable def spec_l24Blind.us : List (CutU TT (TupT ST [.bool])) := [⟨2, spec_l24Blind.l0.c, fun k x => spec_l24Blind.l0 k x.1 x.2.1 x.2.2.1 x.2.2.2⟩, ⟨5, spec_l24Blind.l1.c, fun k x => spec_l24Blind.l1 k x.1 x.2.1 x.2.2.1 x.2.2.2.1 x.2.2.2.2⟩, ⟨10, spec_l24Blind.l2.c, fun k x => spec_l24Blind.l2 k x.1 x.2.1 x.2.2.1 x.2.2.2.1 x.2.2.2.2.1 x.2.2.2.2.2⟩]
noncomputable def spec_l24Blind.ent (k : Nat) : Ent TT := ⟨137, [.agg 2, .one], [.int .i64, .lst (.lst (.int .i64)), .int .i64], .one, [.bool], fun x => spec_l24Blind.f k x.1 x.2.1 x.2.2⟩
noncomputable def spec_l24Blind.ents (k : Nat) : Ents TT := ⟨[spec_l24Two.ent], []⟩
theorem spec_l24Blind.l0.chk (k : Nat) (x : TupT ST [.int .i64, .int .i64, .int .i64, .lst (.lst (.int .i64))]) : runU TT (calOf (spec_l24Blind.ents k)) (jmps spec_l24Blind.us k) (finK Tryz.f137 (retK TT (.one) [.bool])) Tryz.f137 (some 2) (canonC spec_l24Blind.l0.c x) = spec_l24Blind.l0 (k + 1) x.1 x.2.1 x.2.2.1 x.2.2.2 := by kernel_rfl
noncomputable def spec_l24Blind.l1.raw (k : Nat) (x1 : Int) (x5 : Int) (x6 : Int) (b2_0 : Int) (b2_1 : List (List (Int))) : Option (Bool) := if x6 < b2_0 then ((spec_l24Two.f b2_0 b2_1 x1 x5 x6).bind fun t1 => ((spec_l24Two.f b2_0 b2_1 x1 x6 x5).bind fun t2 => (if ¬ t1 = t2 then (some false) else (spec_l24Blind.l2 k x1 x5 x6 0 b2_0 b2_1)))) else (spec_l24Blind.l0 k x1 (wr .i64 (x5 + 1)) b2_0 b2_1)
theorem spec_l24Blind.l1.clean (k : Nat) (x1 : Int) (x5 : Int) (x6 : Int) (b2_0 : Int) (b2_1 : List (List (Int))) : spec_l24Blind.l1.raw k x1 x5 x6 b2_0 b2_1 = spec_l24Blind.l1 (k + 1) x1 x5 x6 b2_0 b2_1 := by
  rw [spec_l24Blind.l1.raw, spec_l24Blind.l1]
  simp only [wr_i64]
  exact ite_congr rfl (fun h0 => bind_cg fun t1 => (bind_cg fun t2 => (ite_ng _ _))) (fun h0 => rfl)
theorem spec_l24Blind.l1.chk (k : Nat) (x : TupT ST [.int .i64, .int .i64, .int .i64, .int .i64, .lst (.lst (.int .i64))]) : runU TT (calOf (spec_l24Blind.ents k)) (jmps spec_l24Blind.us k) (finK Tryz.f137 (retK TT (.one) [.bool])) Tryz.f137 (some 5) (canonC spec_l24Blind.l1.c x) = spec_l24Blind.l1 (k + 1) x.1 x.2.1 x.2.2.1 x.2.2.2.1 x.2.2.2.2 := Eq.trans (show _ = spec_l24Blind.l1.raw k x.1 x.2.1 x.2.2.1 x.2.2.2.1 x.2.2.2.2 by kernel_rfl) (spec_l24Blind.l1.clean k x.1 x.2.1 x.2.2.1 x.2.2.2.1 x.2.2.2.2)
noncomputable def spec_l24Blind.l2.raw (k : Nat) (x1 : Int) (x5 : Int) (x6 : Int) (x7 : Int) (b2_0 : Int) (b2_1 : List (List (Int))) : Option (Bool) := if x7 < b2_0 then ((spec_l24Two.f b2_0 b2_1 x1 x5 x6).bind fun t3 => ((spec_l24Two.f b2_0 b2_1 x1 t3 x7).bind fun t4 => ((spec_l24Two.f b2_0 b2_1 x1 x6 x7).bind fun t5 => ((spec_l24Two.f b2_0 b2_1 x1 x5 t5).bind fun t6 => (if ¬ t4 = t6 then (some false) else (spec_l24Blind.l2 k x1 x5 x6 (wr .i64 (x7 + 1)) b2_0 b2_1)))))) else (spec_l24Blind.l1 k x1 x5 (wr .i64 (x6 + 1)) b2_0 b2_1)
theorem spec_l24Blind.l2.clean (k : Nat) (x1 : Int) (x5 : Int) (x6 : Int) (x7 : Int) (b2_0 : Int) (b2_1 : List (List (Int))) : spec_l24Blind.l2.raw k x1 x5 x6 x7 b2_0 b2_1 = spec_l24Blind.l2 (k + 1) x1 x5 x6 x7 b2_0 b2_1 := by
  rw [spec_l24Blind.l2.raw, spec_l24Blind.l2]
  simp only [wr_i64]
  exact ite_congr rfl (fun h0 => bind_cg fun t3 => (bind_cg fun t4 => (bind_cg fun t5 => (bind_cg fun t6 => (ite_ng _ _))))) (fun h0 => rfl)
theorem spec_l24Blind.l2.chk (k : Nat) (x : TupT ST [.int .i64, .int .i64, .int .i64, .int .i64, .int .i64, .lst (.lst (.int .i64))]) : runU TT (calOf (spec_l24Blind.ents k)) (jmps spec_l24Blind.us k) (finK Tryz.f137 (retK TT (.one) [.bool])) Tryz.f137 (some 10) (canonC spec_l24Blind.l2.c x) = spec_l24Blind.l2 (k + 1) x.1 x.2.1 x.2.2.1 x.2.2.2.1 x.2.2.2.2.1 x.2.2.2.2.2 := Eq.trans (show _ = spec_l24Blind.l2.raw k x.1 x.2.1 x.2.2.1 x.2.2.2.1 x.2.2.2.2.1 x.2.2.2.2.2 by kernel_rfl) (spec_l24Blind.l2.clean k x.1 x.2.1 x.2.2.1 x.2.2.2.1 x.2.2.2.2.1 x.2.2.2.2.2)
theorem spec_l24Blind.chk (k : Nat) (x : TupT ST [.int .i64, .lst (.lst (.int .i64)), .int .i64]) : runU TT (calOf (spec_l24Blind.ents k)) (jmps spec_l24Blind.us k) (finK Tryz.f137 (retK TT (.one) [.bool])) Tryz.f137 none (canon (args0 0 (argL [.agg 2, .one] [.int .i64, .lst (.lst (.int .i64)), .int .i64] x)) []) = spec_l24Blind.f k x.1 x.2.1 x.2.2 := by kernel_rfl
theorem spec_l24Blind.ok (k : Nat) : EntOk Tryz.prog TT (spec_l24Blind.ent k) :=
  fun_of tbl mixed 137 Tryz.f137 Tryz.func137 rfl (by kernel_rfl) [.agg 2, .one] [.int .i64, .lst (.lst (.int .i64)), .int .i64] (.one) [.bool] (by kernel_rfl) spec_l24Blind.ents spec_l24Blind.us (And.intro (fun _ => rfl) (And.intro (fun _ => rfl) (And.intro (fun _ => rfl) True.intro))) (And.intro spec_l24Blind.l0.chk (And.intro spec_l24Blind.l1.chk (And.intro spec_l24Blind.l2.chk True.intro))) (fun k (x : TupT ST [.int .i64, .lst (.lst (.int .i64)), .int .i64]) => spec_l24Blind.f k x.1 x.2.1 x.2.2) spec_l24Blind.chk (fun k => EntsOk.mk (And.intro spec_l24Two.ok True.intro) True.intro) k
mutual
noncomputable def spec_WorldOk.l0 : Nat → List (I_Sym) → Int → Int → List (List (Int)) → Option (Bool)
  | 0, _, _, _, _ => none
  | k + 1, x0, x5, b3_0, b3_1 => if x5 < (x0.length : Int) then (if 0 ≤ x5 then (if x5 < (b3_1.length : Int) then ((spec_l24Power.f k b3_0 ((rd_I_Sym x0 x5).f1)).bind fun t3 => (if ((rd_Ls_i64 b3_1 x5).length : Int) = t3 then (spec_WorldOk.l1 k x0 x5 0 b3_0 b3_1) else (some false))) else none) else none) else (some true)
noncomputable def spec_WorldOk.l1 : Nat → List (I_Sym) → Int → Int → Int → List (List (Int)) → Option (Bool)
  | 0, _, _, _, _, _ => none
  | k + 1, x0, x5, x6, b3_0, b3_1 => if 0 ≤ x5 then (if x5 < (b3_1.length : Int) then (if x6 < ((rd_Ls_i64 b3_1 x5).length : Int) then (if 0 ≤ x6 then ((spec_l1In.f (rd (rd_Ls_i64 b3_1 x5) x6) 0 (wrap64 (b3_0 - 1))).bind fun t4 => (if t4 = true then (spec_WorldOk.l1 k x0 x5 (wrap64 (x6 + 1)) b3_0 b3_1) else (some false))) else none) else (if x5 < (x0.length : Int) then (if ((rd_I_Sym x0 x5).f2) = true then ((spec_l24Blind.f k b3_0 b3_1 x5).bind fun t5 => (if t5 = true then (spec_WorldOk.l0 k x0 (wrap64 (x5 + 1)) b3_0 b3_1) else (some false))) else (spec_WorldOk.l0 k x0 (wrap64 (x5 + 1)) b3_0 b3_1)) else none)) else none) else none
end
noncomputable def spec_WorldOk.f (k : Nat) (l0 : List (I_Sym)) (a1_0 : Int) (l1_1 : List (List (Int))) : Option (Bool) := (spec_SigOk.f k l0).bind fun t1 => (if t1 = true then ((spec_l1In.f a1_0 1 4).bind fun t2 => (if t2 = true then (if (l1_1.length : Int) = (l0.length : Int) then (spec_WorldOk.l0 k l0 0 a1_0 l1_1) else (some false)) else (some false))) else (some false))
noncomputable def spec_WorldOk.l0.c : Cut := ⟨[0], [(3, 1)], [(0, .one), (3, .ptr 3 0), (5, .one)], [(3, [.one, .one])], [], [.lst (.st 4), .int .i64, .int .i64, .lst (.lst (.int .i64))]⟩
noncomputable def spec_WorldOk.l1.c : Cut := ⟨[0], [(3, 1)], [(0, .one), (3, .ptr 3 0), (5, .one), (6, .one)], [(3, [.one, .one])], [], [.lst (.st 4), .int .i64, .int .i64, .int .i64, .lst (.lst (.int .i64))]⟩
@[reducible] noncomputable def spec_WorldOk.us : List (CutU TT (TupT ST [.bool])) := [⟨4, spec_WorldOk.l0.c, fun k x => spec_WorldOk.l0 k x.1 x.2.1 x.2.2.1 x.2.2.2⟩, ⟨9, spec_WorldOk.l1.c, fun k x => spec_WorldOk.l1 k x.1 x.2.1 x.2.2.1 x.2.2.2.1 x.2.2.2.2⟩]
noncomputable def spec_WorldOk.ent (k : Nat) : Ent TT := ⟨51, [.one, .agg 2], [.lst (.st 4), .int .i64, .lst (.lst (.int .i64))], .one, [.bool], fun x => spec_WorldOk.f k x.1 x.2.1 x.2.2⟩
noncomputable def spec_WorldOk.ents (k : Nat) : Ents TT := ⟨[spec_SigOk.ent k, spec_l1In.ent, spec_l24Power.ent k, spec_l24Blind.ent k], []⟩
noncomputable def spec_WorldOk.l0.raw (k : Nat) (x0 : List (I_Sym)) (x5 : Int) (b3_0 : Int) (b3_1 : List (List (Int))) : Option (Bool) := if x5 < (x0.length : Int) then (if 0 ≤ x5 then (if x5 < (b3_1.length : Int) then (if 0 ≤ x5 then (if x5 < (x0.length : Int) then ((spec_l24Power.f k b3_0 ((rd_I_Sym x0 x5).f1)).bind fun t3 => (if ¬ ((rd_Ls_i64 b3_1 x5).length : Int) = t3 then (some false) else (spec_WorldOk.l1 k x0 x5 0 b3_0 b3_1))) else none) else none) else none) else none) else (some true)
theorem spec_WorldOk.l0.clean (k : Nat) (x0 : List (I_Sym)) (x5 : Int) (b3_0 : Int) (b3_1 : List (List (Int))) : spec_WorldOk.l0.raw k x0 x5 b3_0 b3_1 = spec_WorldOk.l0 (k + 1) x0 x5 b3_0 b3_1 := by
  rw [spec_WorldOk.l0.raw, spec_WorldOk.l0]
  exact ite_congr rfl (fun h0 => ite_congr rfl (fun h1 => ite_congr rfl (fun h2 => Eq.trans (if_pos h1) (Eq.trans (if_pos h0) (bind_cg fun t3 => (ite_ng _ _)))) (fun h2 => rfl)) (fun h1 => rfl)) (fun h0 => rfl)
theorem spec_WorldOk.l0.chk (k : Nat) (x : TupT ST [.lst (.st 4), .int .i64, .int .i64, .lst (.lst (.int .i64))]) : runU TT (calOf (spec_WorldOk.ents k)) (jmps spec_WorldOk.us k) (finK Tryz.f51 (retK TT (.one) [.bool])) Tryz.f51 (some 4) (canonC spec_WorldOk.l0.c x) = spec_WorldOk.l0 (k + 1) x.1 x.2.1 x.2.2.1 x.2.2.2 := Eq.trans (show _ = spec_WorldOk.l0.raw k x.1 x.2.1 x.2.2.1 x.2.2.2 by kernel_rfl) (spec_WorldOk.l0.clean k x.1 x.2.1 x.2.2.1 x.2.2.2)
noncomputable def spec_WorldOk.l1.raw (k : Nat) (x0 : List (I_Sym)) (x5 : Int) (x6 : Int) (b3_0 : Int) (b3_1 : List (List (Int))) : Option (Bool) := if 0 ≤ x5 then (if x5 < (b3_1.length : Int) then (if x6 < ((rd_Ls_i64 b3_1 x5).length : Int) then (if 0 ≤ x5 then (if x5 < (b3_1.length : Int) then (if 0 ≤ x6 then (if x6 < ((rd_Ls_i64 b3_1 x5).length : Int) then ((spec_l1In.f (rd (rd_Ls_i64 b3_1 x5) x6) 0 (wr .i64 (b3_0 - 1))).bind fun t4 => (if (!t4) = true then (some false) else (spec_WorldOk.l1 k x0 x5 (wr .i64 (x6 + 1)) b3_0 b3_1))) else none) else none) else none) else none) else (if 0 ≤ x5 then (if x5 < (x0.length : Int) then (if ((rd_I_Sym x0 x5).f2) = true then ((spec_l24Blind.f k b3_0 b3_1 x5).bind fun t5 => (if (!t5) = true then (some false) else (spec_WorldOk.l0 k x0 (wr .i64 (x5 + 1)) b3_0 b3_1))) else (spec_WorldOk.l0 k x0 (wr .i64 (x5 + 1)) b3_0 b3_1)) else none) else none)) else none) else none
theorem spec_WorldOk.l1.clean (k : Nat) (x0 : List (I_Sym)) (x5 : Int) (x6 : Int) (b3_0 : Int) (b3_1 : List (List (Int))) : spec_WorldOk.l1.raw k x0 x5 x6 b3_0 b3_1 = spec_WorldOk.l1 (k + 1) x0 x5 x6 b3_0 b3_1 := by
  rw [spec_WorldOk.l1.raw, spec_WorldOk.l1]
  simp only [wr_i64]
  exact ite_congr rfl (fun h0 => ite_congr rfl (fun h1 => ite_congr rfl (fun h2 => Eq.trans (if_pos h0) (Eq.trans (if_pos h1) (ite_congr rfl (fun h3 => Eq.trans (if_pos h2) (bind_cg fun t4 => (ite_nb _ _ _))) (fun h3 => rfl)))) (fun h2 => Eq.trans (if_pos h0) (ite_congr rfl (fun h3 => ite_congr rfl (fun h4 => bind_cg fun t5 => (ite_nb _ _ _)) (fun h4 => rfl)) (fun h3 => rfl)))) (fun h1 => rfl)) (fun h0 => rfl)
theorem spec_WorldOk.l1.chk (k : Nat) (x : TupT ST [.lst (.st 4), .int .i64, .int .i64, .int .i64, .lst (.lst (.int .i64))]) : runU TT (calOf (spec_WorldOk.ents k)) (jmps spec_WorldOk.us k) (finK Tryz.f51 (retK TT (.one) [.bool])) Tryz.f51 (some 9) (canonC spec_WorldOk.l1.c x) = spec_WorldOk.l1 (k + 1) x.1 x.2.1 x.2.2.1 x.2.2.2.1 x.2.2.2.2 := Eq.trans (show _ = spec_WorldOk.l1.raw k x.1 x.2.1 x.2.2.1 x.2.2.2.1 x.2.2.2.2 by kernel_rfl) (spec_WorldOk.l1.clean k x.1 x.2.1 x.2.2.1 x.2.2.2.1 x.2.2.2.2)
noncomputable def spec_WorldOk.raw (k : Nat) (l0 : List (I_Sym)) (a1_0 : Int) (l1_1 : List (List (Int))) : Option (Bool) := (spec_SigOk.f k l0).bind fun t1 => (if (!t1) = true then (some false) else ((spec_l1In.f a1_0 1 4).bind fun t2 => (if (!t2) = true then (some false) else (if ¬ (l1_1.length : Int) = (l0.length : Int) then (some false) else (spec_WorldOk.l0 k l0 0 a1_0 l1_1)))))
theorem spec_WorldOk.clean (k : Nat) (l0 : List (I_Sym)) (a1_0 : Int) (l1_1 : List (List (Int))) : spec_WorldOk.raw k l0 a1_0 l1_1 = spec_WorldOk.f k l0 a1_0 l1_1 := by
  rw [spec_WorldOk.raw, spec_WorldOk.f]
  exact bind_cg fun t1 => (Eq.trans (ite_nb _ _ _) (ite_congr rfl (fun h0 => bind_cg fun t2 => (Eq.trans (ite_nb _ _ _) (ite_congr rfl (fun h1 => ite_ng _ _) (fun h1 => rfl)))) (fun h0 => rfl)))
theorem spec_WorldOk.chk (k : Nat) (x : TupT ST [.lst (.st 4), .int .i64, .lst (.lst (.int .i64))]) : runU TT (calOf (spec_WorldOk.ents k)) (jmps spec_WorldOk.us k) (finK Tryz.f51 (retK TT (.one) [.bool])) Tryz.f51 none (canon (args0 0 (argL [.one, .agg 2] [.lst (.st 4), .int .i64, .lst (.lst (.int .i64))] x)) []) = spec_WorldOk.f k x.1 x.2.1 x.2.2 := Eq.trans (show _ = spec_WorldOk.raw k x.1 x.2.1 x.2.2 by kernel_rfl) (spec_WorldOk.clean k x.1 x.2.1 x.2.2)
theorem spec_WorldOk.ok (k : Nat) : EntOk Tryz.prog TT (spec_WorldOk.ent k) :=
  fun_of tbl mixed 51 Tryz.f51 Tryz.func51 rfl (by kernel_rfl) [.one, .agg 2] [.lst (.st 4), .int .i64, .lst (.lst (.int .i64))] (.one) [.bool] (by kernel_rfl) spec_WorldOk.ents spec_WorldOk.us (And.intro (fun _ => rfl) (And.intro (fun _ => rfl) True.intro)) (And.intro spec_WorldOk.l0.chk (And.intro spec_WorldOk.l1.chk True.intro)) (fun k (x : TupT ST [.lst (.st 4), .int .i64, .lst (.lst (.int .i64))]) => spec_WorldOk.f k x.1 x.2.1 x.2.2) spec_WorldOk.chk (fun k => EntsOk.mk (And.intro (spec_SigOk.ok k) (And.intro spec_l1In.ok (And.intro (spec_l24Power.ok k) (And.intro (spec_l24Blind.ok k) True.intro)))) True.intro) k
mutual
noncomputable def spec_Parts.l0 : Nat → Int → Int → Int → Int → List (I_Term) → Option (Int)
  | 0, _, _, _, _, _ => none
  | k + 1, x3, x4, b1_0, b1_1, b1_2 => if x4 < (b1_2.length : Int) then (if 0 ≤ x4 then ((spec_Parts.f k ((rd_I_Term b1_2 x4).f0) ((rd_I_Term b1_2 x4).f1) ((rd_I_Term b1_2 x4).f2)).bind fun t1 => (spec_Parts.l0 k (wrap64 (x3 + t1)) (wrap64 (x4 + 1)) b1_0 b1_1 b1_2)) else none) else (some x3)
noncomputable def spec_Parts.f : Nat → Int → Int → List (I_Term) → Option (Int)
  | 0, _, _, _ => none
  | k + 1, a0_0, a0_1, l0_2 => spec_Parts.l0 k 1 0 a0_0 a0_1 l0_2
end
noncomputable def spec_Parts.ent (k : Nat) : Ent TT := ⟨241, [.agg 3], [.int .i64, .int .i64, .lst (.st 5)], .one, [.int .i64], fun x => spec_Parts.f k x.1 x.2.1 x.2.2⟩
noncomputable def spec_Parts.l0.c : Cut := ⟨[], [(1, 2)], [(1, .ptr 1 0), (3, .one), (4, .one)], [(1, [.one, .one, .one])], [], [.int .i64, .int .i64, .int .i64, .int .i64, .lst (.st 5)]⟩
@[reducible] noncomputable def spec_Parts.us : List (CutU TT (TupT ST [.int .i64])) := [⟨3, spec_Parts.l0.c, fun k x => spec_Parts.l0 k x.1 x.2.1 x.2.2.1 x.2.2.2.1 x.2.2.2.2⟩]
noncomputable def spec_Parts.ents (k : Nat) : Ents TT := ⟨[spec_Parts.ent k], []⟩
noncomputable def spec_Parts.l0.raw (k : Nat) (x3 : Int) (x4 : Int) (b1_0 : Int) (b1_1 : Int) (b1_2 : List (I_Term)) : Option (Int) := if x4 < (b1_2.length : Int) then (if 0 ≤ x4 then (if x4 < (b1_2.length : Int) then ((spec_Parts.f k ((rd_I_Term b1_2 x4).f0) ((rd_I_Term b1_2 x4).f1) ((rd_I_Term b1_2 x4).f2)).bind fun t1 => (spec_Parts.l0 k (wr .i64 (x3 + t1)) (wr .i64 (x4 + 1)) b1_0 b1_1 b1_2)) else none) else none) else (some x3)
theorem spec_Parts.l0.clean (k : Nat) (x3 : Int) (x4 : Int) (b1_0 : Int) (b1_1 : Int) (b1_2 : List (I_Term)) : spec_Parts.l0.raw k x3 x4 b1_0 b1_1 b1_2 = spec_Parts.l0 (k + 1) x3 x4 b1_0 b1_1 b1_2 := by
  rw [spec_Parts.l0.raw, spec_Parts.l0]
  simp only [wr_i64]
  exact ite_congr rfl (fun h0 => ite_congr rfl (fun h1 => if_pos h0) (fun h1 => rfl)) (fun h0 => rfl)
theorem spec_Parts.l0.chk (k : Nat) (x : TupT ST [.int .i64, .int .i64, .int .i64, .int .i64, .lst (.st 5)]) : runU TT (calOf (spec_Parts.ents k)) (jmps spec_Parts.us k) (finK Tryz.f241 (retK TT (.one) [.int .i64])) Tryz.f241 (some 3) (canonC spec_Parts.l0.c x) = spec_Parts.l0 (k + 1) x.1 x.2.1 x.2.2.1 x.2.2.2.1 x.2.2.2.2 := Eq.trans (show _ = spec_Parts.l0.raw k x.1 x.2.1 x.2.2.1 x.2.2.2.1 x.2.2.2.2 by kernel_rfl) (spec_Parts.l0.clean k x.1 x.2.1 x.2.2.1 x.2.2.2.1 x.2.2.2.2)
theorem spec_Parts.chk (k : Nat) (x : TupT ST [.int .i64, .int .i64, .lst (.st 5)]) : runU TT (calOf (spec_Parts.ents k)) (jmps spec_Parts.us k) (finK Tryz.f241 (retK TT (.one) [.int .i64])) Tryz.f241 none (canon (args0 0 (argL [.agg 3] [.int .i64, .int .i64, .lst (.st 5)] x)) []) = spec_Parts.f (k + 1) x.1 x.2.1 x.2.2 := by kernel_rfl
theorem spec_Parts.grp : ∀ k : Nat, EachU (EntOk Tryz.prog TT) [spec_Parts.ent k] ∧ EachU (Ent2Ok Tryz.prog TT) [] := by
  intro k
  induction k using Nat.strongRecOn with
  | ind k ih =>
    exact And.intro (And.intro (fun_in tbl mixed 241 Tryz.f241 Tryz.func241 rfl (by kernel_rfl) [.agg 3] [.int .i64, .int .i64, .lst (.st 5)] (.one) [.int .i64] (by kernel_rfl) spec_Parts.ents spec_Parts.us (And.intro (fun _ => rfl) True.intro) (And.intro spec_Parts.l0.chk True.intro) (fun k (x : TupT ST [.int .i64, .int .i64, .lst (.st 5)]) => spec_Parts.f k x.1 x.2.1 x.2.2) (fun _ => rfl) spec_Parts.chk k (fun j h => EntsOk.mk (And.intro (ih j h).1.1 True.intro) True.intro)) True.intro) True.intro
theorem spec_Parts.ok (k : Nat) : EntOk Tryz.prog TT (spec_Parts.ent k) := (spec_Parts.grp k).1.1
mutual
noncomputable def spec_TermSame.l0 : Nat → Int → Int → Int → List (I_Term) → Int → Int → List (I_Term) → Option (Bool)
  | 0, _, _, _, _, _, _, _ => none
  | k + 1, x5, b2_0, b2_1, b2_2, b3_0, b3_1, b3_2 => if x5 < (b2_2.length : Int) then (if 0 ≤ x5 then (if x5 < (b3_2.length : Int) then ((spec_TermSame.f k ((rd_I_Term b2_2 x5).f0) ((rd_I_Term b2_2 x5).f1) ((rd_I_Term b2_2 x5).f2) ((rd_I_Term b3_2 x5).f0) ((rd_I_Term b3_2 x5).f1) ((rd_I_Term b3_2 x5).f2)).bind fun t1 => (if t1 = true then (spec_TermSame.l0 k (wrap64 (x5 + 1)) b2_0 b2_1 b2_2 b3_0 b3_1 b3_2) else (some false))) else none) else none) else (some true)
noncomputable def spec_TermSame.f : Nat → Int → Int → List (I_Term) → Int → Int → List (I_Term) → Option (Bool)
  | 0, _, _, _, _, _, _ => none
  | k + 1, a0_0, a0_1, l0_2, a1_0, a1_1, l1_2 => if a0_0 = a1_0 then (if a0_1 = a1_1 then (if (l0_2.length : Int) = (l1_2.length : Int) then (spec_TermSame.l0 k 0 a0_0 a0_1 l0_2 a1_0 a1_1 l1_2) else (some false)) else (some false)) else (some false)
end
noncomputable def spec_TermSame.ent (k : Nat) : Ent TT := ⟨167, [.agg 3, .agg 3], [.int .i64, .int .i64, .lst (.st 5), .int .i64, .int .i64, .lst (.st 5)], .one, [.bool], fun x => spec_TermSame.f k x.1 x.2.1 x.2.2.1 x.2.2.2.1 x.2.2.2.2.1 x.2.2.2.2.2⟩
noncomputable def spec_TermSame.l0.c : Cut := ⟨[], [(2, 2), (3, 2)], [(2, .ptr 2 0), (3, .ptr 3 0), (5, .one)], [(2, [.one, .one, .one]), (3, [.one, .one, .one])], [], [.int .i64, .int .i64, .int .i64, .lst (.st 5), .int .i64, .int .i64, .lst (.st 5)]⟩
@[reducible] noncomputable def spec_TermSame.us : List (CutU TT (TupT ST [.bool])) := [⟨4, spec_TermSame.l0.c, fun k x => spec_TermSame.l0 k x.1 x.2.1 x.2.2.1 x.2.2.2.1 x.2.2.2.2.1 x.2.2.2.2.2.1 x.2.2.2.2.2.2⟩]
noncomputable def spec_TermSame.ents (k : Nat) : Ents TT := ⟨[spec_TermSame.ent k], []⟩
noncomputable def spec_TermSame.l0.raw (k : Nat) (x5 : Int) (b2_0 : Int) (b2_1 : Int) (b2_2 : List (I_Term)) (b3_0 : Int) (b3_1 : Int) (b3_2 : List (I_Term)) : Option (Bool) := if x5 < (b2_2.length : Int) then (if 0 ≤ x5 then (if x5 < (b2_2.length : Int) then (if 0 ≤ x5 then (if x5 < (b3_2.length : Int) then ((spec_TermSame.f k ((rd_I_Term b2_2 x5).f0) ((rd_I_Term b2_2 x5).f1) ((rd_I_Term b2_2 x5).f2) ((rd_I_Term b3_2 x5).f0) ((rd_I_Term b3_2 x5).f1) ((rd_I_Term b3_2 x5).f2)).bind fun t1 => (if (!t1) = true then (some false) else (spec_TermSame.l0 k (wr .i64 (x5 + 1)) b2_0 b2_1 b2_2 b3_0 b3_1 b3_2))) else none) else none) else none) else none) else (some true)
theorem spec_TermSame.l0.clean (k : Nat) (x5 : Int) (b2_0 : Int) (b2_1 : Int) (b2_2 : List (I_Term)) (b3_0 : Int) (b3_1 : Int) (b3_2 : List (I_Term)) : spec_TermSame.l0.raw k x5 b2_0 b2_1 b2_2 b3_0 b3_1 b3_2 = spec_TermSame.l0 (k + 1) x5 b2_0 b2_1 b2_2 b3_0 b3_1 b3_2 := by
  rw [spec_TermSame.l0.raw, spec_TermSame.l0]
  simp only [wr_i64]
  exact ite_congr rfl (fun h0 => ite_congr rfl (fun h1 => Eq.trans (if_pos h0) (Eq.trans (if_pos h1) (ite_congr rfl (fun h2 => bind_cg fun t1 => (ite_nb _ _ _)) (fun h2 => rfl)))) (fun h1 => rfl)) (fun h0 => rfl)
theorem spec_TermSame.l0.chk (k : Nat) (x : TupT ST [.int .i64, .int .i64, .int .i64, .lst (.st 5), .int .i64, .int .i64, .lst (.st 5)]) : runU TT (calOf (spec_TermSame.ents k)) (jmps spec_TermSame.us k) (finK Tryz.f167 (retK TT (.one) [.bool])) Tryz.f167 (some 4) (canonC spec_TermSame.l0.c x) = spec_TermSame.l0 (k + 1) x.1 x.2.1 x.2.2.1 x.2.2.2.1 x.2.2.2.2.1 x.2.2.2.2.2.1 x.2.2.2.2.2.2 := Eq.trans (show _ = spec_TermSame.l0.raw k x.1 x.2.1 x.2.2.1 x.2.2.2.1 x.2.2.2.2.1 x.2.2.2.2.2.1 x.2.2.2.2.2.2 by kernel_rfl) (spec_TermSame.l0.clean k x.1 x.2.1 x.2.2.1 x.2.2.2.1 x.2.2.2.2.1 x.2.2.2.2.2.1 x.2.2.2.2.2.2)
noncomputable def spec_TermSame.raw (k : Nat) (a0_0 : Int) (a0_1 : Int) (l0_2 : List (I_Term)) (a1_0 : Int) (a1_1 : Int) (l1_2 : List (I_Term)) : Option (Bool) := if ¬ a0_0 = a1_0 then (some false) else (if ¬ a0_1 = a1_1 then (some false) else (if ¬ (l0_2.length : Int) = (l1_2.length : Int) then (some false) else (spec_TermSame.l0 k 0 a0_0 a0_1 l0_2 a1_0 a1_1 l1_2)))
theorem spec_TermSame.clean (k : Nat) (a0_0 : Int) (a0_1 : Int) (l0_2 : List (I_Term)) (a1_0 : Int) (a1_1 : Int) (l1_2 : List (I_Term)) : spec_TermSame.raw k a0_0 a0_1 l0_2 a1_0 a1_1 l1_2 = spec_TermSame.f (k + 1) a0_0 a0_1 l0_2 a1_0 a1_1 l1_2 := by
  rw [spec_TermSame.raw, spec_TermSame.f]
  exact Eq.trans (ite_ng _ _) (ite_congr rfl (fun h0 => Eq.trans (ite_ng _ _) (ite_congr rfl (fun h1 => ite_ng _ _) (fun h1 => rfl))) (fun h0 => rfl))
theorem spec_TermSame.chk (k : Nat) (x : TupT ST [.int .i64, .int .i64, .lst (.st 5), .int .i64, .int .i64, .lst (.st 5)]) : runU TT (calOf (spec_TermSame.ents k)) (jmps spec_TermSame.us k) (finK Tryz.f167 (retK TT (.one) [.bool])) Tryz.f167 none (canon (args0 0 (argL [.agg 3, .agg 3] [.int .i64, .int .i64, .lst (.st 5), .int .i64, .int .i64, .lst (.st 5)] x)) []) = spec_TermSame.f (k + 1) x.1 x.2.1 x.2.2.1 x.2.2.2.1 x.2.2.2.2.1 x.2.2.2.2.2 := Eq.trans (show _ = spec_TermSame.raw k x.1 x.2.1 x.2.2.1 x.2.2.2.1 x.2.2.2.2.1 x.2.2.2.2.2 by kernel_rfl) (spec_TermSame.clean k x.1 x.2.1 x.2.2.1 x.2.2.2.1 x.2.2.2.2.1 x.2.2.2.2.2)
theorem spec_TermSame.grp : ∀ k : Nat, EachU (EntOk Tryz.prog TT) [spec_TermSame.ent k] ∧ EachU (Ent2Ok Tryz.prog TT) [] := by
  intro k
  induction k using Nat.strongRecOn with
  | ind k ih =>
    exact And.intro (And.intro (fun_in tbl mixed 167 Tryz.f167 Tryz.func167 rfl (by kernel_rfl) [.agg 3, .agg 3] [.int .i64, .int .i64, .lst (.st 5), .int .i64, .int .i64, .lst (.st 5)] (.one) [.bool] (by kernel_rfl) spec_TermSame.ents spec_TermSame.us (And.intro (fun _ => rfl) True.intro) (And.intro spec_TermSame.l0.chk True.intro) (fun k (x : TupT ST [.int .i64, .int .i64, .lst (.st 5), .int .i64, .int .i64, .lst (.st 5)]) => spec_TermSame.f k x.1 x.2.1 x.2.2.1 x.2.2.2.1 x.2.2.2.2.1 x.2.2.2.2.2) (fun _ => rfl) spec_TermSame.chk k (fun j h => EntsOk.mk (And.intro (ih j h).1.1 True.intro) True.intro)) True.intro) True.intro
theorem spec_TermSame.ok (k : Nat) : EntOk Tryz.prog TT (spec_TermSame.ent k) := (spec_TermSame.grp k).1.1
mutual
noncomputable def spec_Before.l0 : Nat → Int → Int → Int → List (I_Term) → Int → Int → List (I_Term) → Option (Bool)
  | 0, _, _, _, _, _, _, _ => none
  | k + 1, x5, b2_0, b2_1, b2_2, b3_0, b3_1, b3_2 => if x5 < (b2_2.length : Int) then (if 0 ≤ x5 then (if x5 < (b3_2.length : Int) then ((spec_TermSame.f k ((rd_I_Term b2_2 x5).f0) ((rd_I_Term b2_2 x5).f1) ((rd_I_Term b2_2 x5).f2) ((rd_I_Term b3_2 x5).f0) ((rd_I_Term b3_2 x5).f1) ((rd_I_Term b3_2 x5).f2)).bind fun t1 => (if t1 = true then (spec_Before.l0 k (wrap64 (x5 + 1)) b2_0 b2_1 b2_2 b3_0 b3_1 b3_2) else ((spec_Before.f k ((rd_I_Term b2_2 x5).f0) ((rd_I_Term b2_2 x5).f1) ((rd_I_Term b2_2 x5).f2) ((rd_I_Term b3_2 x5).f0) ((rd_I_Term b3_2 x5).f1) ((rd_I_Term b3_2 x5).f2)).bind fun t2 => (some t2)))) else none) else none) else (some false)
noncomputable def spec_Before.f : Nat → Int → Int → List (I_Term) → Int → Int → List (I_Term) → Option (Bool)
  | 0, _, _, _, _, _, _ => none
  | k + 1, a0_0, a0_1, l0_2, a1_0, a1_1, l1_2 => if a0_0 = a1_0 then (if a0_1 = a1_1 then (if (l0_2.length : Int) = (l1_2.length : Int) then (spec_Before.l0 k 0 a0_0 a0_1 l0_2 a1_0 a1_1 l1_2) else (some (decide ((l0_2.length : Int) < (l1_2.length : Int))))) else (some (decide (a0_1 < a1_1)))) else (some (decide (a0_0 < a1_0)))
end
noncomputable def spec_Before.ent (k : Nat) : Ent TT := ⟨251, [.agg 3, .agg 3], [.int .i64, .int .i64, .lst (.st 5), .int .i64, .int .i64, .lst (.st 5)], .one, [.bool], fun x => spec_Before.f k x.1 x.2.1 x.2.2.1 x.2.2.2.1 x.2.2.2.2.1 x.2.2.2.2.2⟩
noncomputable def spec_Before.l0.c : Cut := ⟨[], [(2, 2), (3, 2)], [(2, .ptr 2 0), (3, .ptr 3 0), (5, .one)], [(2, [.one, .one, .one]), (3, [.one, .one, .one])], [], [.int .i64, .int .i64, .int .i64, .lst (.st 5), .int .i64, .int .i64, .lst (.st 5)]⟩
@[reducible] noncomputable def spec_Before.us : List (CutU TT (TupT ST [.bool])) := [⟨8, spec_Before.l0.c, fun k x => spec_Before.l0 k x.1 x.2.1 x.2.2.1 x.2.2.2.1 x.2.2.2.2.1 x.2.2.2.2.2.1 x.2.2.2.2.2.2⟩]
noncomputable def spec_Before.ents (k : Nat) : Ents TT := ⟨[spec_TermSame.ent k, spec_Before.ent k], []⟩
noncomputable def spec_Before.l0.raw (k : Nat) (x5 : Int) (b2_0 : Int) (b2_1 : Int) (b2_2 : List (I_Term)) (b3_0 : Int) (b3_1 : Int) (b3_2 : List (I_Term)) : Option (Bool) := if x5 < (b2_2.length : Int) then (if 0 ≤ x5 then (if x5 < (b2_2.length : Int) then (if 0 ≤ x5 then (if x5 < (b3_2.length : Int) then ((spec_TermSame.f k ((rd_I_Term b2_2 x5).f0) ((rd_I_Term b2_2 x5).f1) ((rd_I_Term b2_2 x5).f2) ((rd_I_Term b3_2 x5).f0) ((rd_I_Term b3_2 x5).f1) ((rd_I_Term b3_2 x5).f2)).bind fun t1 => (if (!t1) = true then (if 0 ≤ x5 then (if x5 < (b2_2.length : Int) then (if 0 ≤ x5 then (if x5 < (b3_2.length : Int) then ((spec_Before.f k ((rd_I_Term b2_2 x5).f0) ((rd_I_Term b2_2 x5).f1) ((rd_I_Term b2_2 x5).f2) ((rd_I_Term b3_2 x5).f0) ((rd_I_Term b3_2 x5).f1) ((rd_I_Term b3_2 x5).f2)).bind fun t2 => (some t2)) else none) else none) else none) else none) else (spec_Before.l0 k (wr .i64 (x5 + 1)) b2_0 b2_1 b2_2 b3_0 b3_1 b3_2))) else none) else none) else none) else none) else (some false)
theorem spec_Before.l0.clean (k : Nat) (x5 : Int) (b2_0 : Int) (b2_1 : Int) (b2_2 : List (I_Term)) (b3_0 : Int) (b3_1 : Int) (b3_2 : List (I_Term)) : spec_Before.l0.raw k x5 b2_0 b2_1 b2_2 b3_0 b3_1 b3_2 = spec_Before.l0 (k + 1) x5 b2_0 b2_1 b2_2 b3_0 b3_1 b3_2 := by
  rw [spec_Before.l0.raw, spec_Before.l0]
  simp only [wr_i64]
  exact ite_congr rfl (fun h0 => ite_congr rfl (fun h1 => Eq.trans (if_pos h0) (Eq.trans (if_pos h1) (ite_congr rfl (fun h2 => bind_cg fun t1 => (Eq.trans (ite_nb _ _ _) (ite_congr rfl (fun h3 => rfl) (fun h3 => Eq.trans (if_pos h1) (Eq.trans (if_pos h0) (Eq.trans (if_pos h1) (if_pos h2))))))) (fun h2 => rfl)))) (fun h1 => rfl)) (fun h0 => rfl)
theorem spec_Before.l0.chk (k : Nat) (x : TupT ST [.int .i64, .int .i64, .int .i64, .lst (.st 5), .int .i64, .int .i64, .lst (.st 5)]) : runU TT (calOf (spec_Before.ents k)) (jmps spec_Before.us k) (finK Tryz.f251 (retK TT (.one) [.bool])) Tryz.f251 (some 8) (canonC spec_Before.l0.c x) = spec_Before.l0 (k + 1) x.1 x.2.1 x.2.2.1 x.2.2.2.1 x.2.2.2.2.1 x.2.2.2.2.2.1 x.2.2.2.2.2.2 := Eq.trans (show _ = spec_Before.l0.raw k x.1 x.2.1 x.2.2.1 x.2.2.2.1 x.2.2.2.2.1 x.2.2.2.2.2.1 x.2.2.2.2.2.2 by kernel_rfl) (spec_Before.l0.clean k x.1 x.2.1 x.2.2.1 x.2.2.2.1 x.2.2.2.2.1 x.2.2.2.2.2.1 x.2.2.2.2.2.2)
noncomputable def spec_Before.raw (k : Nat) (a0_0 : Int) (a0_1 : Int) (l0_2 : List (I_Term)) (a1_0 : Int) (a1_1 : Int) (l1_2 : List (I_Term)) : Option (Bool) := if ¬ a0_0 = a1_0 then (some (decide (a0_0 < a1_0))) else (if ¬ a0_1 = a1_1 then (some (decide (a0_1 < a1_1))) else (if ¬ (l0_2.length : Int) = (l1_2.length : Int) then (some (decide ((l0_2.length : Int) < (l1_2.length : Int)))) else (spec_Before.l0 k 0 a0_0 a0_1 l0_2 a1_0 a1_1 l1_2)))
theorem spec_Before.clean (k : Nat) (a0_0 : Int) (a0_1 : Int) (l0_2 : List (I_Term)) (a1_0 : Int) (a1_1 : Int) (l1_2 : List (I_Term)) : spec_Before.raw k a0_0 a0_1 l0_2 a1_0 a1_1 l1_2 = spec_Before.f (k + 1) a0_0 a0_1 l0_2 a1_0 a1_1 l1_2 := by
  rw [spec_Before.raw, spec_Before.f]
  exact Eq.trans (ite_ng _ _) (ite_congr rfl (fun h0 => Eq.trans (ite_ng _ _) (ite_congr rfl (fun h1 => ite_ng _ _) (fun h1 => rfl))) (fun h0 => rfl))
theorem spec_Before.chk (k : Nat) (x : TupT ST [.int .i64, .int .i64, .lst (.st 5), .int .i64, .int .i64, .lst (.st 5)]) : runU TT (calOf (spec_Before.ents k)) (jmps spec_Before.us k) (finK Tryz.f251 (retK TT (.one) [.bool])) Tryz.f251 none (canon (args0 0 (argL [.agg 3, .agg 3] [.int .i64, .int .i64, .lst (.st 5), .int .i64, .int .i64, .lst (.st 5)] x)) []) = spec_Before.f (k + 1) x.1 x.2.1 x.2.2.1 x.2.2.2.1 x.2.2.2.2.1 x.2.2.2.2.2 := Eq.trans (show _ = spec_Before.raw k x.1 x.2.1 x.2.2.1 x.2.2.2.1 x.2.2.2.2.1 x.2.2.2.2.2 by kernel_rfl) (spec_Before.clean k x.1 x.2.1 x.2.2.1 x.2.2.2.1 x.2.2.2.2.1 x.2.2.2.2.2)
theorem spec_Before.grp : ∀ k : Nat, EachU (EntOk Tryz.prog TT) [spec_Before.ent k] ∧ EachU (Ent2Ok Tryz.prog TT) [] := by
  intro k
  induction k using Nat.strongRecOn with
  | ind k ih =>
    exact And.intro (And.intro (fun_in tbl mixed 251 Tryz.f251 Tryz.func251 rfl (by kernel_rfl) [.agg 3, .agg 3] [.int .i64, .int .i64, .lst (.st 5), .int .i64, .int .i64, .lst (.st 5)] (.one) [.bool] (by kernel_rfl) spec_Before.ents spec_Before.us (And.intro (fun _ => rfl) True.intro) (And.intro spec_Before.l0.chk True.intro) (fun k (x : TupT ST [.int .i64, .int .i64, .lst (.st 5), .int .i64, .int .i64, .lst (.st 5)]) => spec_Before.f k x.1 x.2.1 x.2.2.1 x.2.2.2.1 x.2.2.2.2.1 x.2.2.2.2.2) (fun _ => rfl) spec_Before.chk k (fun j h => EntsOk.mk (And.intro (spec_TermSame.ok j) (And.intro (ih j h).1.1 True.intro)) True.intro)) True.intro) True.intro
theorem spec_Before.ok (k : Nat) : EntOk Tryz.prog TT (spec_Before.ent k) := (spec_Before.grp k).1.1
mutual
noncomputable def spec_l4Right.l0 : Nat → List (I_Sym) → Int → Int → Int → List (I_Term) → Option (Bool)
  | 0, _, _, _, _, _ => none
  | k + 1, x0, x5, b3_0, b3_1, b3_2 => if x5 < (b3_2.length : Int) then (if 0 ≤ b3_0 then (if b3_0 < (x0.length : Int) then (if ((rd_I_Sym x0 b3_0).f2) = true then (if 0 ≤ x5 then (if ((rd_I_Term b3_2 x5).f0) = b3_0 then (some false) else (if x5 > 0 then (if 0 ≤ (wrap64 (x5 - 1)) then (if (wrap64 (x5 - 1)) < (b3_2.length : Int) then ((spec_Before.f k ((rd_I_Term b3_2 x5).f0) ((rd_I_Term b3_2 x5).f1) ((rd_I_Term b3_2 x5).f2) ((rd_I_Term b3_2 (wrap64 (x5 - 1))).f0) ((rd_I_Term b3_2 (wrap64 (x5 - 1))).f1) ((rd_I_Term b3_2 (wrap64 (x5 - 1))).f2)).bind fun t3 => (if t3 = true then (some false) else ((spec_l4Right.f k x0 ((rd_I_Term b3_2 x5).f0) ((rd_I_Term b3_2 x5).f1) ((rd_I_Term b3_2 x5).f2)).bind fun t4 => (if t4 = true then (spec_l4Right.l0 k x0 (wrap64 (x5 + 1)) b3_0 b3_1 b3_2) else (some false))))) else none) else none) else ((spec_l4Right.f k x0 ((rd_I_Term b3_2 x5).f0) ((rd_I_Term b3_2 x5).f1) ((rd_I_Term b3_2 x5).f2)).bind fun t5 => (if t5 = true then (spec_l4Right.l0 k x0 (wrap64 (x5 + 1)) b3_0 b3_1 b3_2) else (some false))))) else none) else (if 0 ≤ x5 then ((spec_l4Right.f k x0 ((rd_I_Term b3_2 x5).f0) ((rd_I_Term b3_2 x5).f1) ((rd_I_Term b3_2 x5).f2)).bind fun t6 => (if t6 = true then (spec_l4Right.l0 k x0 (wrap64 (x5 + 1)) b3_0 b3_1 b3_2) else (some false))) else none)) else none) else none) else (some true)
noncomputable def spec_l4Right.f : Nat → List (I_Sym) → Int → Int → List (I_Term) → Option (Bool)
  | 0, _, _, _, _ => none
  | k + 1, l0, a1_0, a1_1, l1_2 => if a1_0 = (-1) then ((spec_l1In.f a1_1 0 99).bind fun t1 => (if t1 = true then (some (decide ((l1_2.length : Int) = 0))) else (some false))) else ((spec_l1In.f a1_0 0 (wrap64 ((l0.length : Int) - 1))).bind fun t2 => (if t2 = true then (if a1_1 = 0 then (if 0 ≤ a1_0 then (if a1_0 < (l0.length : Int) then (if ((rd_I_Sym l0 a1_0).f2) = true then (if (l1_2.length : Int) < 2 then (some false) else (spec_l4Right.l0 k l0 0 a1_0 a1_1 l1_2)) else (if (l1_2.length : Int) = ((rd_I_Sym l0 a1_0).f1) then (spec_l4Right.l0 k l0 0 a1_0 a1_1 l1_2) else (some false))) else none) else none) else (some false)) else (some false)))
end
noncomputable def spec_l4Right.ent (k : Nat) : Ent TT := ⟨242, [.one, .agg 3], [.lst (.st 4), .int .i64, .int .i64, .lst (.st 5)], .one, [.bool], fun x => spec_l4Right.f k x.1 x.2.1 x.2.2.1 x.2.2.2⟩
noncomputable def spec_l4Right.l0.c : Cut := ⟨[0], [(3, 2)], [(0, .one), (3, .ptr 3 0), (5, .one)], [(3, [.one, .one, .one])], [], [.lst (.st 4), .int .i64, .int .i64, .int .i64, .lst (.st 5)]⟩
@[reducible] noncomputable def spec_l4Right.us : List (CutU TT (TupT ST [.bool])) := [⟨6, spec_l4Right.l0.c, fun k x => spec_l4Right.l0 k x.1 x.2.1 x.2.2.1 x.2.2.2.1 x.2.2.2.2⟩]
noncomputable def spec_l4Right.ents (k : Nat) : Ents TT := ⟨[spec_l1In.ent, spec_Before.ent k, spec_l4Right.ent k], []⟩
noncomputable def spec_l4Right.l0.raw (k : Nat) (x0 : List (I_Sym)) (x5 : Int) (b3_0 : Int) (b3_1 : Int) (b3_2 : List (I_Term)) : Option (Bool) := if x5 < (b3_2.length : Int) then (if 0 ≤ b3_0 then (if b3_0 < (x0.length : Int) then (if ((rd_I_Sym x0 b3_0).f2) = true then (if 0 ≤ x5 then (if x5 < (b3_2.length : Int) then (if ((rd_I_Term b3_2 x5).f0) = b3_0 then (some false) else (if x5 > 0 then (if 0 ≤ x5 then (if x5 < (b3_2.length : Int) then (if 0 ≤ (wr .i64 (x5 - 1)) then (if (wr .i64 (x5 - 1)) < (b3_2.length : Int) then ((spec_Before.f k ((rd_I_Term b3_2 x5).f0) ((rd_I_Term b3_2 x5).f1) ((rd_I_Term b3_2 x5).f2) ((rd_I_Term b3_2 (wr .i64 (x5 - 1))).f0) ((rd_I_Term b3_2 (wr .i64 (x5 - 1))).f1) ((rd_I_Term b3_2 (wr .i64 (x5 - 1))).f2)).bind fun t3 => (if t3 = true then (some false) else (if 0 ≤ x5 then (if x5 < (b3_2.length : Int) then ((spec_l4Right.f k x0 ((rd_I_Term b3_2 x5).f0) ((rd_I_Term b3_2 x5).f1) ((rd_I_Term b3_2 x5).f2)).bind fun t4 => (if (!t4) = true then (some false) else (spec_l4Right.l0 k x0 (wr .i64 (x5 + 1)) b3_0 b3_1 b3_2))) else none) else none))) else none) else none) else none) else none) else (if 0 ≤ x5 then (if x5 < (b3_2.length : Int) then ((spec_l4Right.f k x0 ((rd_I_Term b3_2 x5).f0) ((rd_I_Term b3_2 x5).f1) ((rd_I_Term b3_2 x5).f2)).bind fun t5 => (if (!t5) = true then (some false) else (spec_l4Right.l0 k x0 (wr .i64 (x5 + 1)) b3_0 b3_1 b3_2))) else none) else none))) else none) else none) else (if 0 ≤ x5 then (if x5 < (b3_2.length : Int) then ((spec_l4Right.f k x0 ((rd_I_Term b3_2 x5).f0) ((rd_I_Term b3_2 x5).f1) ((rd_I_Term b3_2 x5).f2)).bind fun t6 => (if (!t6) = true then (some false) else (spec_l4Right.l0 k x0 (wr .i64 (x5 + 1)) b3_0 b3_1 b3_2))) else none) else none)) else none) else none) else (some true)
theorem spec_l4Right.l0.clean (k : Nat) (x0 : List (I_Sym)) (x5 : Int) (b3_0 : Int) (b3_1 : Int) (b3_2 : List (I_Term)) : spec_l4Right.l0.raw k x0 x5 b3_0 b3_1 b3_2 = spec_l4Right.l0 (k + 1) x0 x5 b3_0 b3_1 b3_2 := by
  rw [spec_l4Right.l0.raw, spec_l4Right.l0]
  simp only [wr_i64]
  exact ite_congr rfl (fun h0 => ite_congr rfl (fun h1 => ite_congr rfl (fun h2 => ite_congr rfl (fun h3 => ite_congr rfl (fun h4 => Eq.trans (if_pos h0) (ite_congr rfl (fun h5 => rfl) (fun h5 => ite_congr rfl (fun h6 => Eq.trans (if_pos h4) (Eq.trans (if_pos h0) (ite_congr rfl (fun h7 => ite_congr rfl (fun h8 => bind_cg fun t3 => (ite_congr rfl (fun h9 => rfl) (fun h9 => Eq.trans (if_pos h4) (Eq.trans (if_pos h0) (bind_cg fun t4 => (ite_nb _ _ _)))))) (fun h8 => rfl)) (fun h7 => rfl)))) (fun h6 => Eq.trans (if_pos h4) (Eq.trans (if_pos h0) (bind_cg fun t5 => (ite_nb _ _ _))))))) (fun h4 => rfl)) (fun h3 => ite_congr rfl (fun h4 => Eq.trans (if_pos h0) (bind_cg fun t6 => (ite_nb _ _ _))) (fun h4 => rfl))) (fun h2 => rfl)) (fun h1 => rfl)) (fun h0 => rfl)
theorem spec_l4Right.l0.chk (k : Nat) (x : TupT ST [.lst (.st 4), .int .i64, .int .i64, .int .i64, .lst (.st 5)]) : runU TT (calOf (spec_l4Right.ents k)) (jmps spec_l4Right.us k) (finK Tryz.f242 (retK TT (.one) [.bool])) Tryz.f242 (some 6) (canonC spec_l4Right.l0.c x) = spec_l4Right.l0 (k + 1) x.1 x.2.1 x.2.2.1 x.2.2.2.1 x.2.2.2.2 := Eq.trans (show _ = spec_l4Right.l0.raw k x.1 x.2.1 x.2.2.1 x.2.2.2.1 x.2.2.2.2 by kernel_rfl) (spec_l4Right.l0.clean k x.1 x.2.1 x.2.2.1 x.2.2.2.1 x.2.2.2.2)
noncomputable def spec_l4Right.raw (k : Nat) (l0 : List (I_Sym)) (a1_0 : Int) (a1_1 : Int) (l1_2 : List (I_Term)) : Option (Bool) := if a1_0 = (-1) then ((spec_l1In.f a1_1 0 99).bind fun t1 => (if t1 = true then (some (decide ((l1_2.length : Int) = 0))) else (some false))) else ((spec_l1In.f a1_0 0 (wr .i64 ((l0.length : Int) - 1))).bind fun t2 => (if (!t2) = true then (some false) else (if ¬ a1_1 = 0 then (some false) else (if 0 ≤ a1_0 then (if a1_0 < (l0.length : Int) then (if (!((rd_I_Sym l0 a1_0).f2)) = true then (if 0 ≤ a1_0 then (if a1_0 < (l0.length : Int) then (if ¬ (l1_2.length : Int) = ((rd_I_Sym l0 a1_0).f1) then (some false) else (if 0 ≤ a1_0 then (if a1_0 < (l0.length : Int) then (if ((rd_I_Sym l0 a1_0).f2) = true then (if (l1_2.length : Int) < 2 then (some false) else (spec_l4Right.l0 k l0 0 a1_0 a1_1 l1_2)) else (spec_l4Right.l0 k l0 0 a1_0 a1_1 l1_2)) else none) else none)) else none) else none) else (if 0 ≤ a1_0 then (if a1_0 < (l0.length : Int) then (if ((rd_I_Sym l0 a1_0).f2) = true then (if (l1_2.length : Int) < 2 then (some false) else (spec_l4Right.l0 k l0 0 a1_0 a1_1 l1_2)) else (spec_l4Right.l0 k l0 0 a1_0 a1_1 l1_2)) else none) else none)) else none) else none))))
theorem spec_l4Right.clean (k : Nat) (l0 : List (I_Sym)) (a1_0 : Int) (a1_1 : Int) (l1_2 : List (I_Term)) : spec_l4Right.raw k l0 a1_0 a1_1 l1_2 = spec_l4Right.f (k + 1) l0 a1_0 a1_1 l1_2 := by
  rw [spec_l4Right.raw, spec_l4Right.f]
  simp only [wr_i64]
  exact ite_congr rfl (fun h0 => rfl) (fun h0 => bind_cg fun t2 => (Eq.trans (ite_nb _ _ _) (ite_congr rfl (fun h1 => Eq.trans (ite_ng _ _) (ite_congr rfl (fun h2 => ite_congr rfl (fun h3 => ite_congr rfl (fun h4 => Eq.trans (ite_nb _ _ _) (ite_congr rfl (fun h5 => Eq.trans (if_pos h3) (Eq.trans (if_pos h4) (if_pos h5))) (fun h5 => Eq.trans (if_pos h3) (Eq.trans (if_pos h4) (Eq.trans (ite_ng _ _) (ite_congr rfl (fun h6 => Eq.trans (if_pos h3) (Eq.trans (if_pos h4) (if_neg h5))) (fun h6 => rfl))))))) (fun h4 => rfl)) (fun h3 => rfl)) (fun h2 => rfl))) (fun h1 => rfl))))
theorem spec_l4Right.chk (k : Nat) (x : TupT ST [.lst (.st 4), .int .i64, .int .i64, .lst (.st 5)]) : runU TT (calOf (spec_l4Right.ents k)) (jmps spec_l4Right.us k) (finK Tryz.f242 (retK TT (.one) [.bool])) Tryz.f242 none (canon (args0 0 (argL [.one, .agg 3] [.lst (.st 4), .int .i64, .int .i64, .lst (.st 5)] x)) []) = spec_l4Right.f (k + 1) x.1 x.2.1 x.2.2.1 x.2.2.2 := Eq.trans (show _ = spec_l4Right.raw k x.1 x.2.1 x.2.2.1 x.2.2.2 by kernel_rfl) (spec_l4Right.clean k x.1 x.2.1 x.2.2.1 x.2.2.2)
theorem spec_l4Right.grp : ∀ k : Nat, EachU (EntOk Tryz.prog TT) [spec_l4Right.ent k] ∧ EachU (Ent2Ok Tryz.prog TT) [] := by
  intro k
  induction k using Nat.strongRecOn with
  | ind k ih =>
    exact And.intro (And.intro (fun_in tbl mixed 242 Tryz.f242 Tryz.func242 rfl (by kernel_rfl) [.one, .agg 3] [.lst (.st 4), .int .i64, .int .i64, .lst (.st 5)] (.one) [.bool] (by kernel_rfl) spec_l4Right.ents spec_l4Right.us (And.intro (fun _ => rfl) True.intro) (And.intro spec_l4Right.l0.chk True.intro) (fun k (x : TupT ST [.lst (.st 4), .int .i64, .int .i64, .lst (.st 5)]) => spec_l4Right.f k x.1 x.2.1 x.2.2.1 x.2.2.2) (fun _ => rfl) spec_l4Right.chk k (fun j h => EntsOk.mk (And.intro spec_l1In.ok (And.intro (spec_Before.ok j) (And.intro (ih j h).1.1 True.intro))) True.intro)) True.intro) True.intro
theorem spec_l4Right.ok (k : Nat) : EntOk Tryz.prog TT (spec_l4Right.ent k) := (spec_l4Right.grp k).1.1
noncomputable def spec_TermOk.f (k : Nat) (l0 : List (I_Sym)) (a1_0 : Int) (a1_1 : Int) (l1_2 : List (I_Term)) : Option (Bool) := (spec_SigOk.f k l0).bind fun t1 => (if t1 = true then ((spec_Parts.f k a1_0 a1_1 l1_2).bind fun t2 => (if t2 ≤ 60 then ((spec_l4Right.f k l0 a1_0 a1_1 l1_2).bind fun t3 => (some t3)) else (some false))) else (some false))
@[reducible] noncomputable def spec_TermOk.us : List (CutU TT (TupT ST [.bool])) := []
noncomputable def spec_TermOk.ent (k : Nat) : Ent TT := ⟨125, [.one, .agg 3], [.lst (.st 4), .int .i64, .int .i64, .lst (.st 5)], .one, [.bool], fun x => spec_TermOk.f k x.1 x.2.1 x.2.2.1 x.2.2.2⟩
noncomputable def spec_TermOk.ents (k : Nat) : Ents TT := ⟨[spec_SigOk.ent k, spec_Parts.ent k, spec_l4Right.ent k], []⟩
theorem spec_TermOk.chk (k : Nat) (x : TupT ST [.lst (.st 4), .int .i64, .int .i64, .lst (.st 5)]) : runU TT (calOf (spec_TermOk.ents k)) (jmps spec_TermOk.us k) (finK Tryz.f125 (retK TT (.one) [.bool])) Tryz.f125 none (canon (args0 0 (argL [.one, .agg 3] [.lst (.st 4), .int .i64, .int .i64, .lst (.st 5)] x)) []) = spec_TermOk.f k x.1 x.2.1 x.2.2.1 x.2.2.2 := by kernel_rfl
theorem spec_TermOk.ok (k : Nat) : EntOk Tryz.prog TT (spec_TermOk.ent k) :=
  fun_of tbl mixed 125 Tryz.f125 Tryz.func125 rfl (by kernel_rfl) [.one, .agg 3] [.lst (.st 4), .int .i64, .int .i64, .lst (.st 5)] (.one) [.bool] (by kernel_rfl) spec_TermOk.ents spec_TermOk.us True.intro True.intro (fun k (x : TupT ST [.lst (.st 4), .int .i64, .int .i64, .lst (.st 5)]) => spec_TermOk.f k x.1 x.2.1 x.2.2.1 x.2.2.2) spec_TermOk.chk (fun k => EntsOk.mk (And.intro (spec_SigOk.ok k) (And.intro (spec_Parts.ok k) (And.intro (spec_l4Right.ok k) True.intro))) True.intro) k
noncomputable def spec_LitOk.f (k : Nat) (l0 : List (I_Sym)) (a1_0 : Bool) (a1_1 : Int) (a1_2 : Int) (l1_3 : List (I_Term)) (a1_4 : Int) (a1_5 : Int) (l1_6 : List (I_Term)) : Option (Bool) := (spec_TermOk.f k l0 a1_1 a1_2 l1_3).bind fun t1 => (if t1 = true then ((spec_TermOk.f k l0 a1_4 a1_5 l1_6).bind fun t2 => (if t2 = true then ((spec_Before.f k a1_1 a1_2 l1_3 a1_4 a1_5 l1_6).bind fun t3 => (some (!t3))) else (some false))) else (some false))
@[reducible] noncomputable def spec_LitOk.us : List (CutU TT (TupT ST [.bool])) := []
noncomputable def spec_LitOk.ent (k : Nat) : Ent TT := ⟨157, [.one, .agg 7], [.lst (.st 4), .bool, .int .i64, .int .i64, .lst (.st 5), .int .i64, .int .i64, .lst (.st 5)], .one, [.bool], fun x => spec_LitOk.f k x.1 x.2.1 x.2.2.1 x.2.2.2.1 x.2.2.2.2.1 x.2.2.2.2.2.1 x.2.2.2.2.2.2.1 x.2.2.2.2.2.2.2⟩
noncomputable def spec_LitOk.ents (k : Nat) : Ents TT := ⟨[spec_TermOk.ent k, spec_Before.ent k], []⟩
theorem spec_LitOk.chk (k : Nat) (x : TupT ST [.lst (.st 4), .bool, .int .i64, .int .i64, .lst (.st 5), .int .i64, .int .i64, .lst (.st 5)]) : runU TT (calOf (spec_LitOk.ents k)) (jmps spec_LitOk.us k) (finK Tryz.f157 (retK TT (.one) [.bool])) Tryz.f157 none (canon (args0 0 (argL [.one, .agg 7] [.lst (.st 4), .bool, .int .i64, .int .i64, .lst (.st 5), .int .i64, .int .i64, .lst (.st 5)] x)) []) = spec_LitOk.f k x.1 x.2.1 x.2.2.1 x.2.2.2.1 x.2.2.2.2.1 x.2.2.2.2.2.1 x.2.2.2.2.2.2.1 x.2.2.2.2.2.2.2 := by kernel_rfl
theorem spec_LitOk.ok (k : Nat) : EntOk Tryz.prog TT (spec_LitOk.ent k) :=
  fun_of tbl mixed 157 Tryz.f157 Tryz.func157 rfl (by kernel_rfl) [.one, .agg 7] [.lst (.st 4), .bool, .int .i64, .int .i64, .lst (.st 5), .int .i64, .int .i64, .lst (.st 5)] (.one) [.bool] (by kernel_rfl) spec_LitOk.ents spec_LitOk.us True.intro True.intro (fun k (x : TupT ST [.lst (.st 4), .bool, .int .i64, .int .i64, .lst (.st 5), .int .i64, .int .i64, .lst (.st 5)]) => spec_LitOk.f k x.1 x.2.1 x.2.2.1 x.2.2.2.1 x.2.2.2.2.1 x.2.2.2.2.2.1 x.2.2.2.2.2.2.1 x.2.2.2.2.2.2.2) spec_LitOk.chk (fun k => EntsOk.mk (And.intro (spec_TermOk.ok k) (And.intro (spec_Before.ok k) True.intro)) True.intro) k
noncomputable def spec_LitBefore.f (k : Nat) (a0_0 : Bool) (a0_1 : Int) (a0_2 : Int) (l0_3 : List (I_Term)) (a0_4 : Int) (a0_5 : Int) (l0_6 : List (I_Term)) (a1_0 : Bool) (a1_1 : Int) (a1_2 : Int) (l1_3 : List (I_Term)) (a1_4 : Int) (a1_5 : Int) (l1_6 : List (I_Term)) : Option (Bool) := if a0_0 = a1_0 then ((spec_TermSame.f k a0_1 a0_2 l0_3 a1_1 a1_2 l1_3).bind fun t1 => (if t1 = true then ((spec_Before.f k a0_4 a0_5 l0_6 a1_4 a1_5 l1_6).bind fun t3 => (some t3)) else ((spec_Before.f k a0_1 a0_2 l0_3 a1_1 a1_2 l1_3).bind fun t2 => (some t2)))) else (some a1_0)
@[reducible] noncomputable def spec_LitBefore.us : List (CutU TT (TupT ST [.bool])) := []
noncomputable def spec_LitBefore.ent (k : Nat) : Ent TT := ⟨158, [.agg 7, .agg 7], [.bool, .int .i64, .int .i64, .lst (.st 5), .int .i64, .int .i64, .lst (.st 5), .bool, .int .i64, .int .i64, .lst (.st 5), .int .i64, .int .i64, .lst (.st 5)], .one, [.bool], fun x => spec_LitBefore.f k x.1 x.2.1 x.2.2.1 x.2.2.2.1 x.2.2.2.2.1 x.2.2.2.2.2.1 x.2.2.2.2.2.2.1 x.2.2.2.2.2.2.2.1 x.2.2.2.2.2.2.2.2.1 x.2.2.2.2.2.2.2.2.2.1 x.2.2.2.2.2.2.2.2.2.2.1 x.2.2.2.2.2.2.2.2.2.2.2.1 x.2.2.2.2.2.2.2.2.2.2.2.2.1 x.2.2.2.2.2.2.2.2.2.2.2.2.2⟩
noncomputable def spec_LitBefore.ents (k : Nat) : Ents TT := ⟨[spec_TermSame.ent k, spec_Before.ent k], []⟩
noncomputable def spec_LitBefore.raw (k : Nat) (a0_0 : Bool) (a0_1 : Int) (a0_2 : Int) (l0_3 : List (I_Term)) (a0_4 : Int) (a0_5 : Int) (l0_6 : List (I_Term)) (a1_0 : Bool) (a1_1 : Int) (a1_2 : Int) (l1_3 : List (I_Term)) (a1_4 : Int) (a1_5 : Int) (l1_6 : List (I_Term)) : Option (Bool) := if ¬ a0_0 = a1_0 then (some a1_0) else ((spec_TermSame.f k a0_1 a0_2 l0_3 a1_1 a1_2 l1_3).bind fun t1 => (if (!t1) = true then ((spec_Before.f k a0_1 a0_2 l0_3 a1_1 a1_2 l1_3).bind fun t2 => (some t2)) else ((spec_Before.f k a0_4 a0_5 l0_6 a1_4 a1_5 l1_6).bind fun t3 => (some t3))))
theorem spec_LitBefore.clean (k : Nat) (a0_0 : Bool) (a0_1 : Int) (a0_2 : Int) (l0_3 : List (I_Term)) (a0_4 : Int) (a0_5 : Int) (l0_6 : List (I_Term)) (a1_0 : Bool) (a1_1 : Int) (a1_2 : Int) (l1_3 : List (I_Term)) (a1_4 : Int) (a1_5 : Int) (l1_6 : List (I_Term)) : spec_LitBefore.raw k a0_0 a0_1 a0_2 l0_3 a0_4 a0_5 l0_6 a1_0 a1_1 a1_2 l1_3 a1_4 a1_5 l1_6 = spec_LitBefore.f k a0_0 a0_1 a0_2 l0_3 a0_4 a0_5 l0_6 a1_0 a1_1 a1_2 l1_3 a1_4 a1_5 l1_6 := by
  rw [spec_LitBefore.raw, spec_LitBefore.f]
  exact Eq.trans (ite_ng _ _) (ite_congr rfl (fun h0 => bind_cg fun t1 => (ite_nb _ _ _)) (fun h0 => rfl))
theorem spec_LitBefore.chk (k : Nat) (x : TupT ST [.bool, .int .i64, .int .i64, .lst (.st 5), .int .i64, .int .i64, .lst (.st 5), .bool, .int .i64, .int .i64, .lst (.st 5), .int .i64, .int .i64, .lst (.st 5)]) : runU TT (calOf (spec_LitBefore.ents k)) (jmps spec_LitBefore.us k) (finK Tryz.f158 (retK TT (.one) [.bool])) Tryz.f158 none (canon (args0 0 (argL [.agg 7, .agg 7] [.bool, .int .i64, .int .i64, .lst (.st 5), .int .i64, .int .i64, .lst (.st 5), .bool, .int .i64, .int .i64, .lst (.st 5), .int .i64, .int .i64, .lst (.st 5)] x)) []) = spec_LitBefore.f k x.1 x.2.1 x.2.2.1 x.2.2.2.1 x.2.2.2.2.1 x.2.2.2.2.2.1 x.2.2.2.2.2.2.1 x.2.2.2.2.2.2.2.1 x.2.2.2.2.2.2.2.2.1 x.2.2.2.2.2.2.2.2.2.1 x.2.2.2.2.2.2.2.2.2.2.1 x.2.2.2.2.2.2.2.2.2.2.2.1 x.2.2.2.2.2.2.2.2.2.2.2.2.1 x.2.2.2.2.2.2.2.2.2.2.2.2.2 := Eq.trans (show _ = spec_LitBefore.raw k x.1 x.2.1 x.2.2.1 x.2.2.2.1 x.2.2.2.2.1 x.2.2.2.2.2.1 x.2.2.2.2.2.2.1 x.2.2.2.2.2.2.2.1 x.2.2.2.2.2.2.2.2.1 x.2.2.2.2.2.2.2.2.2.1 x.2.2.2.2.2.2.2.2.2.2.1 x.2.2.2.2.2.2.2.2.2.2.2.1 x.2.2.2.2.2.2.2.2.2.2.2.2.1 x.2.2.2.2.2.2.2.2.2.2.2.2.2 by kernel_rfl) (spec_LitBefore.clean k x.1 x.2.1 x.2.2.1 x.2.2.2.1 x.2.2.2.2.1 x.2.2.2.2.2.1 x.2.2.2.2.2.2.1 x.2.2.2.2.2.2.2.1 x.2.2.2.2.2.2.2.2.1 x.2.2.2.2.2.2.2.2.2.1 x.2.2.2.2.2.2.2.2.2.2.1 x.2.2.2.2.2.2.2.2.2.2.2.1 x.2.2.2.2.2.2.2.2.2.2.2.2.1 x.2.2.2.2.2.2.2.2.2.2.2.2.2)
theorem spec_LitBefore.ok (k : Nat) : EntOk Tryz.prog TT (spec_LitBefore.ent k) :=
  fun_of tbl mixed 158 Tryz.f158 Tryz.func158 rfl (by kernel_rfl) [.agg 7, .agg 7] [.bool, .int .i64, .int .i64, .lst (.st 5), .int .i64, .int .i64, .lst (.st 5), .bool, .int .i64, .int .i64, .lst (.st 5), .int .i64, .int .i64, .lst (.st 5)] (.one) [.bool] (by kernel_rfl) spec_LitBefore.ents spec_LitBefore.us True.intro True.intro (fun k (x : TupT ST [.bool, .int .i64, .int .i64, .lst (.st 5), .int .i64, .int .i64, .lst (.st 5), .bool, .int .i64, .int .i64, .lst (.st 5), .int .i64, .int .i64, .lst (.st 5)]) => spec_LitBefore.f k x.1 x.2.1 x.2.2.1 x.2.2.2.1 x.2.2.2.2.1 x.2.2.2.2.2.1 x.2.2.2.2.2.2.1 x.2.2.2.2.2.2.2.1 x.2.2.2.2.2.2.2.2.1 x.2.2.2.2.2.2.2.2.2.1 x.2.2.2.2.2.2.2.2.2.2.1 x.2.2.2.2.2.2.2.2.2.2.2.1 x.2.2.2.2.2.2.2.2.2.2.2.2.1 x.2.2.2.2.2.2.2.2.2.2.2.2.2) spec_LitBefore.chk (fun k => EntsOk.mk (And.intro (spec_TermSame.ok k) (And.intro (spec_Before.ok k) True.intro)) True.intro) k
noncomputable def spec_ClauseOk.l0 : Nat → List (I_Sym) → Int → List (I_Lit) → Option (Bool)
  | 0, _, _, _ => none
  | k + 1, x0, x5, b3_0 => if x5 < (b3_0.length : Int) then (if 0 ≤ x5 then ((spec_LitOk.f k x0 ((rd_I_Lit b3_0 x5).f0) ((rd_I_Lit b3_0 x5).f1.f0) ((rd_I_Lit b3_0 x5).f1.f1) ((rd_I_Lit b3_0 x5).f1.f2) ((rd_I_Lit b3_0 x5).f2.f0) ((rd_I_Lit b3_0 x5).f2.f1) ((rd_I_Lit b3_0 x5).f2.f2)).bind fun t1 => (if t1 = true then (if x5 > 0 then (if 0 ≤ (wrap64 (x5 - 1)) then (if (wrap64 (x5 - 1)) < (b3_0.length : Int) then ((spec_LitBefore.f k ((rd_I_Lit b3_0 (wrap64 (x5 - 1))).f0) ((rd_I_Lit b3_0 (wrap64 (x5 - 1))).f1.f0) ((rd_I_Lit b3_0 (wrap64 (x5 - 1))).f1.f1) ((rd_I_Lit b3_0 (wrap64 (x5 - 1))).f1.f2) ((rd_I_Lit b3_0 (wrap64 (x5 - 1))).f2.f0) ((rd_I_Lit b3_0 (wrap64 (x5 - 1))).f2.f1) ((rd_I_Lit b3_0 (wrap64 (x5 - 1))).f2.f2) ((rd_I_Lit b3_0 x5).f0) ((rd_I_Lit b3_0 x5).f1.f0) ((rd_I_Lit b3_0 x5).f1.f1) ((rd_I_Lit b3_0 x5).f1.f2) ((rd_I_Lit b3_0 x5).f2.f0) ((rd_I_Lit b3_0 x5).f2.f1) ((rd_I_Lit b3_0 x5).f2.f2)).bind fun t2 => (if t2 = true then (spec_ClauseOk.l0 k x0 (wrap64 (x5 + 1)) b3_0) else (some false))) else none) else none) else (spec_ClauseOk.l0 k x0 (wrap64 (x5 + 1)) b3_0)) else (some false))) else none) else (some (decide ((b3_0.length : Int) ≤ 8)))
noncomputable def spec_ClauseOk.f (k : Nat) (l0 : List (I_Sym)) (l1_0 : List (I_Lit)) : Option (Bool) := spec_ClauseOk.l0 k l0 0 l1_0
noncomputable def spec_ClauseOk.l0.c : Cut := ⟨[0], [(3, 0)], [(0, .one), (3, .ptr 3 0), (5, .one)], [(3, [.one])], [], [.lst (.st 4), .int .i64, .lst (.st 6)]⟩
@[reducible] noncomputable def spec_ClauseOk.us : List (CutU TT (TupT ST [.bool])) := [⟨2, spec_ClauseOk.l0.c, fun k x => spec_ClauseOk.l0 k x.1 x.2.1 x.2.2⟩]
noncomputable def spec_ClauseOk.ent (k : Nat) : Ent TT := ⟨63, [.one, .agg 1], [.lst (.st 4), .lst (.st 6)], .one, [.bool], fun x => spec_ClauseOk.f k x.1 x.2⟩
noncomputable def spec_ClauseOk.ents (k : Nat) : Ents TT := ⟨[spec_LitOk.ent k, spec_LitBefore.ent k], []⟩
noncomputable def spec_ClauseOk.l0.raw (k : Nat) (x0 : List (I_Sym)) (x5 : Int) (b3_0 : List (I_Lit)) : Option (Bool) := if x5 < (b3_0.length : Int) then (if 0 ≤ x5 then (if x5 < (b3_0.length : Int) then ((spec_LitOk.f k x0 ((rd_I_Lit b3_0 x5).f0) ((rd_I_Lit b3_0 x5).f1.f0) ((rd_I_Lit b3_0 x5).f1.f1) ((rd_I_Lit b3_0 x5).f1.f2) ((rd_I_Lit b3_0 x5).f2.f0) ((rd_I_Lit b3_0 x5).f2.f1) ((rd_I_Lit b3_0 x5).f2.f2)).bind fun t1 => (if (!t1) = true then (some false) else (if x5 > 0 then (if 0 ≤ (wr .i64 (x5 - 1)) then (if (wr .i64 (x5 - 1)) < (b3_0.length : Int) then (if 0 ≤ x5 then (if x5 < (b3_0.length : Int) then ((spec_LitBefore.f k ((rd_I_Lit b3_0 (wr .i64 (x5 - 1))).f0) ((rd_I_Lit b3_0 (wr .i64 (x5 - 1))).f1.f0) ((rd_I_Lit b3_0 (wr .i64 (x5 - 1))).f1.f1) ((rd_I_Lit b3_0 (wr .i64 (x5 - 1))).f1.f2) ((rd_I_Lit b3_0 (wr .i64 (x5 - 1))).f2.f0) ((rd_I_Lit b3_0 (wr .i64 (x5 - 1))).f2.f1) ((rd_I_Lit b3_0 (wr .i64 (x5 - 1))).f2.f2) ((rd_I_Lit b3_0 x5).f0) ((rd_I_Lit b3_0 x5).f1.f0) ((rd_I_Lit b3_0 x5).f1.f1) ((rd_I_Lit b3_0 x5).f1.f2) ((rd_I_Lit b3_0 x5).f2.f0) ((rd_I_Lit b3_0 x5).f2.f1) ((rd_I_Lit b3_0 x5).f2.f2)).bind fun t2 => (if (!t2) = true then (some false) else (spec_ClauseOk.l0 k x0 (wr .i64 (x5 + 1)) b3_0))) else none) else none) else none) else none) else (spec_ClauseOk.l0 k x0 (wr .i64 (x5 + 1)) b3_0)))) else none) else none) else (some (decide ((b3_0.length : Int) ≤ 8)))
theorem spec_ClauseOk.l0.clean (k : Nat) (x0 : List (I_Sym)) (x5 : Int) (b3_0 : List (I_Lit)) : spec_ClauseOk.l0.raw k x0 x5 b3_0 = spec_ClauseOk.l0 (k + 1) x0 x5 b3_0 := by
  rw [spec_ClauseOk.l0.raw, spec_ClauseOk.l0]
  simp only [wr_i64]
  exact ite_congr rfl (fun h0 => ite_congr rfl (fun h1 => Eq.trans (if_pos h0) (bind_cg fun t1 => (Eq.trans (ite_nb _ _ _) (ite_congr rfl (fun h2 => ite_congr rfl (fun h3 => ite_congr rfl (fun h4 => ite_congr rfl (fun h5 => Eq.trans (if_pos h1) (Eq.trans (if_pos h0) (bind_cg fun t2 => (ite_nb _ _ _)))) (fun h5 => rfl)) (fun h4 => rfl)) (fun h3 => rfl)) (fun h2 => rfl))))) (fun h1 => rfl)) (fun h0 => rfl)
theorem spec_ClauseOk.l0.chk (k : Nat) (x : TupT ST [.lst (.st 4), .int .i64, .lst (.st 6)]) : runU TT (calOf (spec_ClauseOk.ents k)) (jmps spec_ClauseOk.us k) (finK Tryz.f63 (retK TT (.one) [.bool])) Tryz.f63 (some 2) (canonC spec_ClauseOk.l0.c x) = spec_ClauseOk.l0 (k + 1) x.1 x.2.1 x.2.2 := Eq.trans (show _ = spec_ClauseOk.l0.raw k x.1 x.2.1 x.2.2 by kernel_rfl) (spec_ClauseOk.l0.clean k x.1 x.2.1 x.2.2)
theorem spec_ClauseOk.chk (k : Nat) (x : TupT ST [.lst (.st 4), .lst (.st 6)]) : runU TT (calOf (spec_ClauseOk.ents k)) (jmps spec_ClauseOk.us k) (finK Tryz.f63 (retK TT (.one) [.bool])) Tryz.f63 none (canon (args0 0 (argL [.one, .agg 1] [.lst (.st 4), .lst (.st 6)] x)) []) = spec_ClauseOk.f k x.1 x.2 := by kernel_rfl
theorem spec_ClauseOk.ok (k : Nat) : EntOk Tryz.prog TT (spec_ClauseOk.ent k) :=
  fun_of tbl mixed 63 Tryz.f63 Tryz.func63 rfl (by kernel_rfl) [.one, .agg 1] [.lst (.st 4), .lst (.st 6)] (.one) [.bool] (by kernel_rfl) spec_ClauseOk.ents spec_ClauseOk.us (And.intro (fun _ => rfl) True.intro) (And.intro spec_ClauseOk.l0.chk True.intro) (fun k (x : TupT ST [.lst (.st 4), .lst (.st 6)]) => spec_ClauseOk.f k x.1 x.2) spec_ClauseOk.chk (fun k => EntsOk.mk (And.intro (spec_LitOk.ok k) (And.intro (spec_LitBefore.ok k) True.intro)) True.intro) k
noncomputable def spec_NumIn.l0 : Nat → List (Int) → Int → Int → Option (Bool)
  | 0, _, _, _ => none
  | k + 1, x0, x1, x5 => if x5 < (x0.length : Int) then (if 0 ≤ x5 then (if (rd x0 x5) = x1 then (some true) else (spec_NumIn.l0 k x0 x1 (wrap64 (x5 + 1)))) else none) else (some false)
noncomputable def spec_NumIn.f (k : Nat) (l0 : List (Int)) (a1 : Int) : Option (Bool) := spec_NumIn.l0 k l0 a1 0
noncomputable def spec_NumIn.l0.c : Cut := ⟨[0], [], [(0, .one), (1, .one), (5, .one)], [], [], [.lst (.int .i64), .int .i64, .int .i64]⟩
@[reducible] noncomputable def spec_NumIn.us : List (CutU TT (TupT ST [.bool])) := [⟨2, spec_NumIn.l0.c, fun k x => spec_NumIn.l0 k x.1 x.2.1 x.2.2⟩]
noncomputable def spec_NumIn.ent (k : Nat) : Ent TT := ⟨297, [.one, .one], [.lst (.int .i64), .int .i64], .one, [.bool], fun x => spec_NumIn.f k x.1 x.2⟩
noncomputable def spec_NumIn.ents (k : Nat) : Ents TT := ⟨[], []⟩
noncomputable def spec_NumIn.l0.raw (k : Nat) (x0 : List (Int)) (x1 : Int) (x5 : Int) : Option (Bool) := if x5 < (x0.length : Int) then (if 0 ≤ x5 then (if x5 < (x0.length : Int) then (if (rd x0 x5) = x1 then (some true) else (spec_NumIn.l0 k x0 x1 (wr .i64 (x5 + 1)))) else none) else none) else (some false)
theorem spec_NumIn.l0.clean (k : Nat) (x0 : List (Int)) (x1 : Int) (x5 : Int) : spec_NumIn.l0.raw k x0 x1 x5 = spec_NumIn.l0 (k + 1) x0 x1 x5 := by
  rw [spec_NumIn.l0.raw, spec_NumIn.l0]
  simp only [wr_i64]
  exact ite_congr rfl (fun h0 => ite_congr rfl (fun h1 => if_pos h0) (fun h1 => rfl)) (fun h0 => rfl)
theorem spec_NumIn.l0.chk (k : Nat) (x : TupT ST [.lst (.int .i64), .int .i64, .int .i64]) : runU TT (calOf (spec_NumIn.ents k)) (jmps spec_NumIn.us k) (finK Tryz.f297 (retK TT (.one) [.bool])) Tryz.f297 (some 2) (canonC spec_NumIn.l0.c x) = spec_NumIn.l0 (k + 1) x.1 x.2.1 x.2.2 := Eq.trans (show _ = spec_NumIn.l0.raw k x.1 x.2.1 x.2.2 by kernel_rfl) (spec_NumIn.l0.clean k x.1 x.2.1 x.2.2)
theorem spec_NumIn.chk (k : Nat) (x : TupT ST [.lst (.int .i64), .int .i64]) : runU TT (calOf (spec_NumIn.ents k)) (jmps spec_NumIn.us k) (finK Tryz.f297 (retK TT (.one) [.bool])) Tryz.f297 none (canon (args0 0 (argL [.one, .one] [.lst (.int .i64), .int .i64] x)) []) = spec_NumIn.f k x.1 x.2 := by kernel_rfl
theorem spec_NumIn.ok (k : Nat) : EntOk Tryz.prog TT (spec_NumIn.ent k) :=
  fun_of tbl mixed 297 Tryz.f297 Tryz.func297 rfl (by kernel_rfl) [.one, .one] [.lst (.int .i64), .int .i64] (.one) [.bool] (by kernel_rfl) spec_NumIn.ents spec_NumIn.us (And.intro (fun _ => rfl) True.intro) (And.intro spec_NumIn.l0.chk True.intro) (fun k (x : TupT ST [.lst (.int .i64), .int .i64]) => spec_NumIn.f k x.1 x.2) spec_NumIn.chk (fun k => EntsOk.mk True.intro True.intro) k
noncomputable def spec_NumAdd.l0 : Nat → List (Int) → Int → Int → Option ((List (Int)))
  | 0, _, _, _ => none
  | k + 1, x0, x1, x5 => if x5 < (x0.length : Int) then (if 0 ≤ x5 then (if (rd x0 x5) < x1 then (spec_NumAdd.l0 k x0 x1 (wrap64 (x5 + 1))) else (if x5 ≤ (x0.length : Int) then (if ([] : List (Int)).length + (x0.take (x5 : Int).toNat).length ≤ 1599289640401 then (if (([] : List (Int)) ++ (x0.take (x5 : Int).toNat)).length + ([x1] : List (Int)).length ≤ 1599289640401 then (if ((([] : List (Int)) ++ (x0.take (x5 : Int).toNat)) ++ ([x1] : List (Int))).length + (x0.drop (x5 : Int).toNat).length ≤ 1599289640401 then (some (((([] : List (Int)) ++ (x0.take (x5 : Int).toNat)) ++ ([x1] : List (Int))) ++ (x0.drop (x5 : Int).toNat))) else none) else none) else none) else none)) else none) else (if 0 ≤ x5 then (if x5 ≤ (x0.length : Int) then (if ([] : List (Int)).length + (x0.take (x5 : Int).toNat).length ≤ 1599289640401 then (if (([] : List (Int)) ++ (x0.take (x5 : Int).toNat)).length + ([x1] : List (Int)).length ≤ 1599289640401 then (if ((([] : List (Int)) ++ (x0.take (x5 : Int).toNat)) ++ ([x1] : List (Int))).length + (x0.drop (x5 : Int).toNat).length ≤ 1599289640401 then (some (((([] : List (Int)) ++ (x0.take (x5 : Int).toNat)) ++ ([x1] : List (Int))) ++ (x0.drop (x5 : Int).toNat))) else none) else none) else none) else none) else none)
noncomputable def spec_NumAdd.f (k : Nat) (l0 : List (Int)) (a1 : Int) : Option ((List (Int))) := (spec_NumIn.f k l0 a1).bind fun t1 => (if t1 = true then (if ([] : List (Int)).length + l0.length ≤ 1599289640401 then (some (([] : List (Int)) ++ l0)) else none) else (spec_NumAdd.l0 k l0 a1 0))
noncomputable def spec_NumAdd.l0.c : Cut := ⟨[0], [], [(0, .one), (1, .one), (5, .one)], [], [], [.lst (.int .i64), .int .i64, .int .i64]⟩
@[reducible] noncomputable def spec_NumAdd.us : List (CutU TT (TupT ST [.lst (.int .i64)])) := [⟨4, spec_NumAdd.l0.c, fun k x => spec_NumAdd.l0 k x.1 x.2.1 x.2.2⟩]
noncomputable def spec_NumAdd.ent (k : Nat) : Ent TT := ⟨278, [.one, .one], [.lst (.int .i64), .int .i64], .one, [.lst (.int .i64)], fun x => spec_NumAdd.f k x.1 x.2⟩
noncomputable def spec_NumAdd.ents (k : Nat) : Ents TT := ⟨[spec_NumIn.ent k], []⟩
noncomputable def spec_NumAdd.l0.raw (k : Nat) (x0 : List (Int)) (x1 : Int) (x5 : Int) : Option ((List (Int))) := if x5 < (x0.length : Int) then (if 0 ≤ x5 then (if x5 < (x0.length : Int) then (if (rd x0 x5) < x1 then (spec_NumAdd.l0 k x0 x1 (wr .i64 (x5 + 1))) else (if 0 ≤ x5 then (if x5 ≤ (x0.length : Int) then (if ([] : List (Int)).length + (x0.take (x5 : Int).toNat).length ≤ 1599289640401 then (if (([] : List (Int)) ++ (x0.take (x5 : Int).toNat)).length + ([x1] : List (Int)).length ≤ 1599289640401 then (if 0 ≤ x5 then (if x5 ≤ (x0.length : Int) then (if ((([] : List (Int)) ++ (x0.take (x5 : Int).toNat)) ++ ([x1] : List (Int))).length + (x0.drop (x5 : Int).toNat).length ≤ 1599289640401 then (some (((([] : List (Int)) ++ (x0.take (x5 : Int).toNat)) ++ ([x1] : List (Int))) ++ (x0.drop (x5 : Int).toNat))) else none) else none) else none) else none) else none) else none) else none)) else none) else none) else (if 0 ≤ x5 then (if x5 ≤ (x0.length : Int) then (if ([] : List (Int)).length + (x0.take (x5 : Int).toNat).length ≤ 1599289640401 then (if (([] : List (Int)) ++ (x0.take (x5 : Int).toNat)).length + ([x1] : List (Int)).length ≤ 1599289640401 then (if 0 ≤ x5 then (if x5 ≤ (x0.length : Int) then (if ((([] : List (Int)) ++ (x0.take (x5 : Int).toNat)) ++ ([x1] : List (Int))).length + (x0.drop (x5 : Int).toNat).length ≤ 1599289640401 then (some (((([] : List (Int)) ++ (x0.take (x5 : Int).toNat)) ++ ([x1] : List (Int))) ++ (x0.drop (x5 : Int).toNat))) else none) else none) else none) else none) else none) else none) else none)
theorem spec_NumAdd.l0.clean (k : Nat) (x0 : List (Int)) (x1 : Int) (x5 : Int) : spec_NumAdd.l0.raw k x0 x1 x5 = spec_NumAdd.l0 (k + 1) x0 x1 x5 := by
  rw [spec_NumAdd.l0.raw, spec_NumAdd.l0]
  simp only [wr_i64]
  exact ite_congr rfl (fun h0 => ite_congr rfl (fun h1 => Eq.trans (if_pos h0) (ite_congr rfl (fun h2 => rfl) (fun h2 => Eq.trans (if_pos h1) (ite_congr rfl (fun h3 => ite_congr rfl (fun h4 => ite_congr rfl (fun h5 => Eq.trans (if_pos h1) (if_pos h3)) (fun h5 => rfl)) (fun h4 => rfl)) (fun h3 => rfl))))) (fun h1 => rfl)) (fun h0 => ite_congr rfl (fun h1 => ite_congr rfl (fun h2 => ite_congr rfl (fun h3 => ite_congr rfl (fun h4 => Eq.trans (if_pos h1) (if_pos h2)) (fun h4 => rfl)) (fun h3 => rfl)) (fun h2 => rfl)) (fun h1 => rfl))
theorem spec_NumAdd.l0.chk (k : Nat) (x : TupT ST [.lst (.int .i64), .int .i64, .int .i64]) : runU TT (calOf (spec_NumAdd.ents k)) (jmps spec_NumAdd.us k) (finK Tryz.f278 (retK TT (.one) [.lst (.int .i64)])) Tryz.f278 (some 4) (canonC spec_NumAdd.l0.c x) = spec_NumAdd.l0 (k + 1) x.1 x.2.1 x.2.2 := Eq.trans (show _ = spec_NumAdd.l0.raw k x.1 x.2.1 x.2.2 by kernel_rfl) (spec_NumAdd.l0.clean k x.1 x.2.1 x.2.2)
theorem spec_NumAdd.chk (k : Nat) (x : TupT ST [.lst (.int .i64), .int .i64]) : runU TT (calOf (spec_NumAdd.ents k)) (jmps spec_NumAdd.us k) (finK Tryz.f278 (retK TT (.one) [.lst (.int .i64)])) Tryz.f278 none (canon (args0 0 (argL [.one, .one] [.lst (.int .i64), .int .i64] x)) []) = spec_NumAdd.f k x.1 x.2 := by kernel_rfl
theorem spec_NumAdd.ok (k : Nat) : EntOk Tryz.prog TT (spec_NumAdd.ent k) :=
  fun_of tbl mixed 278 Tryz.f278 Tryz.func278 rfl (by kernel_rfl) [.one, .one] [.lst (.int .i64), .int .i64] (.one) [.lst (.int .i64)] (by kernel_rfl) spec_NumAdd.ents spec_NumAdd.us (And.intro (fun _ => rfl) True.intro) (And.intro spec_NumAdd.l0.chk True.intro) (fun k (x : TupT ST [.lst (.int .i64), .int .i64]) => spec_NumAdd.f k x.1 x.2) spec_NumAdd.chk (fun k => EntsOk.mk (And.intro (spec_NumIn.ok k) True.intro) True.intro) k
mutual
noncomputable def spec_l3Vars.l0 : Nat → List (Int) → Int → Int → Int → List (I_Term) → Option ((List (Int)))
  | 0, _, _, _, _, _ => none
  | k + 1, x1, x5, b2_0, b2_1, b2_2 => if x5 < (b2_2.length : Int) then (if 0 ≤ x5 then ((spec_l3Vars.f k ((rd_I_Term b2_2 x5).f0) ((rd_I_Term b2_2 x5).f1) ((rd_I_Term b2_2 x5).f2) x1).bind fun t2 => (spec_l3Vars.l0 k t2 (wrap64 (x5 + 1)) b2_0 b2_1 b2_2)) else none) else (some x1)
noncomputable def spec_l3Vars.f : Nat → Int → Int → List (I_Term) → List (Int) → Option ((List (Int)))
  | 0, _, _, _, _ => none
  | k + 1, a0_0, a0_1, l0_2, l1 => if a0_0 = (-1) then ((spec_NumAdd.f k l1 a0_1).bind fun t1 => (spec_l3Vars.l0 k t1 0 a0_0 a0_1 l0_2)) else (spec_l3Vars.l0 k l1 0 a0_0 a0_1 l0_2)
end
noncomputable def spec_l3Vars.ent (k : Nat) : Ent TT := ⟨220, [.agg 3, .one], [.int .i64, .int .i64, .lst (.st 5), .lst (.int .i64)], .one, [.lst (.int .i64)], fun x => spec_l3Vars.f k x.1 x.2.1 x.2.2.1 x.2.2.2⟩
noncomputable def spec_l3Vars.l0.c : Cut := ⟨[1], [(2, 2)], [(1, .one), (2, .ptr 2 0), (5, .one)], [(2, [.one, .one, .one])], [], [.lst (.int .i64), .int .i64, .int .i64, .int .i64, .lst (.st 5)]⟩
@[reducible] noncomputable def spec_l3Vars.us : List (CutU TT (TupT ST [.lst (.int .i64)])) := [⟨4, spec_l3Vars.l0.c, fun k x => spec_l3Vars.l0 k x.1 x.2.1 x.2.2.1 x.2.2.2.1 x.2.2.2.2⟩]
noncomputable def spec_l3Vars.ents (k : Nat) : Ents TT := ⟨[spec_NumAdd.ent k, spec_l3Vars.ent k], []⟩
noncomputable def spec_l3Vars.l0.raw (k : Nat) (x1 : List (Int)) (x5 : Int) (b2_0 : Int) (b2_1 : Int) (b2_2 : List (I_Term)) : Option ((List (Int))) := if x5 < (b2_2.length : Int) then (if 0 ≤ x5 then (if x5 < (b2_2.length : Int) then ((spec_l3Vars.f k ((rd_I_Term b2_2 x5).f0) ((rd_I_Term b2_2 x5).f1) ((rd_I_Term b2_2 x5).f2) x1).bind fun t2 => (spec_l3Vars.l0 k t2 (wr .i64 (x5 + 1)) b2_0 b2_1 b2_2)) else none) else none) else (some x1)
theorem spec_l3Vars.l0.clean (k : Nat) (x1 : List (Int)) (x5 : Int) (b2_0 : Int) (b2_1 : Int) (b2_2 : List (I_Term)) : spec_l3Vars.l0.raw k x1 x5 b2_0 b2_1 b2_2 = spec_l3Vars.l0 (k + 1) x1 x5 b2_0 b2_1 b2_2 := by
  rw [spec_l3Vars.l0.raw, spec_l3Vars.l0]
  simp only [wr_i64]
  exact ite_congr rfl (fun h0 => ite_congr rfl (fun h1 => if_pos h0) (fun h1 => rfl)) (fun h0 => rfl)
theorem spec_l3Vars.l0.chk (k : Nat) (x : TupT ST [.lst (.int .i64), .int .i64, .int .i64, .int .i64, .lst (.st 5)]) : runU TT (calOf (spec_l3Vars.ents k)) (jmps spec_l3Vars.us k) (finK Tryz.f220 (retK TT (.one) [.lst (.int .i64)])) Tryz.f220 (some 4) (canonC spec_l3Vars.l0.c x) = spec_l3Vars.l0 (k + 1) x.1 x.2.1 x.2.2.1 x.2.2.2.1 x.2.2.2.2 := Eq.trans (show _ = spec_l3Vars.l0.raw k x.1 x.2.1 x.2.2.1 x.2.2.2.1 x.2.2.2.2 by kernel_rfl) (spec_l3Vars.l0.clean k x.1 x.2.1 x.2.2.1 x.2.2.2.1 x.2.2.2.2)
theorem spec_l3Vars.chk (k : Nat) (x : TupT ST [.int .i64, .int .i64, .lst (.st 5), .lst (.int .i64)]) : runU TT (calOf (spec_l3Vars.ents k)) (jmps spec_l3Vars.us k) (finK Tryz.f220 (retK TT (.one) [.lst (.int .i64)])) Tryz.f220 none (canon (args0 0 (argL [.agg 3, .one] [.int .i64, .int .i64, .lst (.st 5), .lst (.int .i64)] x)) []) = spec_l3Vars.f (k + 1) x.1 x.2.1 x.2.2.1 x.2.2.2 := by kernel_rfl
theorem spec_l3Vars.grp : ∀ k : Nat, EachU (EntOk Tryz.prog TT) [spec_l3Vars.ent k] ∧ EachU (Ent2Ok Tryz.prog TT) [] := by
  intro k
  induction k using Nat.strongRecOn with
  | ind k ih =>
    exact And.intro (And.intro (fun_in tbl mixed 220 Tryz.f220 Tryz.func220 rfl (by kernel_rfl) [.agg 3, .one] [.int .i64, .int .i64, .lst (.st 5), .lst (.int .i64)] (.one) [.lst (.int .i64)] (by kernel_rfl) spec_l3Vars.ents spec_l3Vars.us (And.intro (fun _ => rfl) True.intro) (And.intro spec_l3Vars.l0.chk True.intro) (fun k (x : TupT ST [.int .i64, .int .i64, .lst (.st 5), .lst (.int .i64)]) => spec_l3Vars.f k x.1 x.2.1 x.2.2.1 x.2.2.2) (fun _ => rfl) spec_l3Vars.chk k (fun j h => EntsOk.mk (And.intro (spec_NumAdd.ok j) (And.intro (ih j h).1.1 True.intro)) True.intro)) True.intro) True.intro
theorem spec_l3Vars.ok (k : Nat) : EntOk Tryz.prog TT (spec_l3Vars.ent k) := (spec_l3Vars.grp k).1.1
noncomputable def spec_ClauseVars.l0 : Nat → List (Int) → Int → List (I_Lit) → Option ((List (Int)))
  | 0, _, _, _ => none
  | k + 1, x3, x4, b1_0 => if x4 < (b1_0.length : Int) then (if 0 ≤ x4 then ((spec_l3Vars.f k ((rd_I_Lit b1_0 x4).f1.f0) ((rd_I_Lit b1_0 x4).f1.f1) ((rd_I_Lit b1_0 x4).f1.f2) x3).bind fun t1 => ((spec_l3Vars.f k ((rd_I_Lit b1_0 x4).f2.f0) ((rd_I_Lit b1_0 x4).f2.f1) ((rd_I_Lit b1_0 x4).f2.f2) t1).bind fun t2 => (spec_ClauseVars.l0 k t2 (wrap64 (x4 + 1)) b1_0))) else none) else (some x3)
noncomputable def spec_ClauseVars.f (k : Nat) (l0_0 : List (I_Lit)) : Option ((List (Int))) := spec_ClauseVars.l0 k ([] : List (Int)) 0 l0_0
noncomputable def spec_ClauseVars.l0.c : Cut := ⟨[3], [(1, 0)], [(1, .ptr 1 0), (3, .one), (4, .one)], [(1, [.one])], [], [.lst (.int .i64), .int .i64, .lst (.st 6)]⟩
@[reducible] noncomputable def spec_ClauseVars.us : List (CutU TT (TupT ST [.lst (.int .i64)])) := [⟨3, spec_ClauseVars.l0.c, fun k x => spec_ClauseVars.l0 k x.1 x.2.1 x.2.2⟩]
noncomputable def spec_ClauseVars.ent (k : Nat) : Ent TT := ⟨95, [.agg 1], [.lst (.st 6)], .one, [.lst (.int .i64)], fun x => spec_ClauseVars.f k x⟩
noncomputable def spec_ClauseVars.ents (k : Nat) : Ents TT := ⟨[spec_l3Vars.ent k], []⟩
noncomputable def spec_ClauseVars.l0.raw (k : Nat) (x3 : List (Int)) (x4 : Int) (b1_0 : List (I_Lit)) : Option ((List (Int))) := if x4 < (b1_0.length : Int) then (if 0 ≤ x4 then (if x4 < (b1_0.length : Int) then (if 0 ≤ x4 then (if x4 < (b1_0.length : Int) then ((spec_l3Vars.f k ((rd_I_Lit b1_0 x4).f1.f0) ((rd_I_Lit b1_0 x4).f1.f1) ((rd_I_Lit b1_0 x4).f1.f2) x3).bind fun t1 => ((spec_l3Vars.f k ((rd_I_Lit b1_0 x4).f2.f0) ((rd_I_Lit b1_0 x4).f2.f1) ((rd_I_Lit b1_0 x4).f2.f2) t1).bind fun t2 => (spec_ClauseVars.l0 k t2 (wr .i64 (x4 + 1)) b1_0))) else none) else none) else none) else none) else (some x3)
theorem spec_ClauseVars.l0.clean (k : Nat) (x3 : List (Int)) (x4 : Int) (b1_0 : List (I_Lit)) : spec_ClauseVars.l0.raw k x3 x4 b1_0 = spec_ClauseVars.l0 (k + 1) x3 x4 b1_0 := by
  rw [spec_ClauseVars.l0.raw, spec_ClauseVars.l0]
  simp only [wr_i64]
  exact ite_congr rfl (fun h0 => ite_congr rfl (fun h1 => Eq.trans (if_pos h0) (Eq.trans (if_pos h1) (if_pos h0))) (fun h1 => rfl)) (fun h0 => rfl)
theorem spec_ClauseVars.l0.chk (k : Nat) (x : TupT ST [.lst (.int .i64), .int .i64, .lst (.st 6)]) : runU TT (calOf (spec_ClauseVars.ents k)) (jmps spec_ClauseVars.us k) (finK Tryz.f95 (retK TT (.one) [.lst (.int .i64)])) Tryz.f95 (some 3) (canonC spec_ClauseVars.l0.c x) = spec_ClauseVars.l0 (k + 1) x.1 x.2.1 x.2.2 := Eq.trans (show _ = spec_ClauseVars.l0.raw k x.1 x.2.1 x.2.2 by kernel_rfl) (spec_ClauseVars.l0.clean k x.1 x.2.1 x.2.2)
theorem spec_ClauseVars.chk (k : Nat) (x : TupT ST [.lst (.st 6)]) : runU TT (calOf (spec_ClauseVars.ents k)) (jmps spec_ClauseVars.us k) (finK Tryz.f95 (retK TT (.one) [.lst (.int .i64)])) Tryz.f95 none (canon (args0 0 (argL [.agg 1] [.lst (.st 6)] x)) []) = spec_ClauseVars.f k x := by kernel_rfl
theorem spec_ClauseVars.ok (k : Nat) : EntOk Tryz.prog TT (spec_ClauseVars.ent k) :=
  fun_of tbl mixed 95 Tryz.f95 Tryz.func95 rfl (by kernel_rfl) [.agg 1] [.lst (.st 6)] (.one) [.lst (.int .i64)] (by kernel_rfl) spec_ClauseVars.ents spec_ClauseVars.us (And.intro (fun _ => rfl) True.intro) (And.intro spec_ClauseVars.l0.chk True.intro) (fun k (x : TupT ST [.lst (.st 6)]) => spec_ClauseVars.f k x) spec_ClauseVars.chk (fun k => EntsOk.mk (And.intro (spec_l3Vars.ok k) True.intro) True.intro) k
noncomputable def spec_Blind.f (l0 : List (I_Sym)) (a1 : Int) : Option (Bool) := (spec_l1In.f a1 0 (wrap64 ((l0.length : Int) - 1))).bind fun t1 => (if t1 = true then (if 0 ≤ a1 then (if a1 < (l0.length : Int) then (some ((rd_I_Sym l0 a1).f2)) else none) else none) else (some false))
@[reducible] noncomputable def spec_Blind.us : List (CutU TT (TupT ST [.bool])) := []
noncomputable def spec_Blind.ent : Ent TT := ⟨193, [.one, .one], [.lst (.st 4), .int .i64], .one, [.bool], fun x => spec_Blind.f x.1 x.2⟩
noncomputable def spec_Blind.ents (k : Nat) : Ents TT := ⟨[spec_l1In.ent], []⟩
noncomputable def spec_Blind.raw (k : Nat) (l0 : List (I_Sym)) (a1 : Int) : Option (Bool) := (spec_l1In.f a1 0 (wr .i64 ((l0.length : Int) - 1))).bind fun t1 => (if t1 = true then (if 0 ≤ a1 then (if a1 < (l0.length : Int) then (some ((rd_I_Sym l0 a1).f2)) else none) else none) else (some false))
theorem spec_Blind.clean (k : Nat) (l0 : List (I_Sym)) (a1 : Int) : spec_Blind.raw k l0 a1 = spec_Blind.f l0 a1 := by
  rw [spec_Blind.raw, spec_Blind.f]
  simp only [wr_i64]
theorem spec_Blind.chk (k : Nat) (x : TupT ST [.lst (.st 4), .int .i64]) : runU TT (calOf (spec_Blind.ents k)) (jmps spec_Blind.us k) (finK Tryz.f193 (retK TT (.one) [.bool])) Tryz.f193 none (canon (args0 0 (argL [.one, .one] [.lst (.st 4), .int .i64] x)) []) = spec_Blind.f x.1 x.2 := Eq.trans (show _ = spec_Blind.raw k x.1 x.2 by kernel_rfl) (spec_Blind.clean k x.1 x.2)
theorem spec_Blind.ok : EntOk Tryz.prog TT (spec_Blind.ent) :=
  fun_of tbl mixed 193 Tryz.f193 Tryz.func193 rfl (by kernel_rfl) [.one, .one] [.lst (.st 4), .int .i64] (.one) [.bool] (by kernel_rfl) spec_Blind.ents spec_Blind.us True.intro True.intro (fun k (x : TupT ST [.lst (.st 4), .int .i64]) => spec_Blind.f x.1 x.2) spec_Blind.chk (fun k => EntsOk.mk (And.intro spec_l1In.ok True.intro) True.intro) 0
mutual
noncomputable def spec_l24Means.l0 : Nat → List (I_Sym) → List (Int) → List (Int) → Int → Int → List (List (Int)) → Int → Int → List (I_Term) → Option (Int)
  | 0, _, _, _, _, _, _, _, _, _ => none
  | k + 1, x0, x3, x10, x11, b5_0, b5_1, b6_0, b6_1, b6_2 => if x11 < (b6_2.length : Int) then (if 0 ≤ x11 then ((spec_l24Means.f k x0 b5_0 b5_1 ((rd_I_Term b6_2 x11).f0) ((rd_I_Term b6_2 x11).f1) ((rd_I_Term b6_2 x11).f2) x3).bind fun t1 => (if x10.length + ([t1] : List (Int)).length ≤ 1599289640401 then (spec_l24Means.l0 k x0 x3 (x10 ++ ([t1] : List (Int))) (wrap64 (x11 + 1)) b5_0 b5_1 b6_0 b6_1 b6_2) else none)) else none) else ((spec_Blind.f x0 b6_0).bind fun t2 => (if t2 = true then (if 0 < (x10.length : Int) then (spec_l24Means.l1 k x10 (rd x10 0) 1 b5_0 b5_1 b6_0 b6_1 b6_2) else none) else (spec_l24Means.l2 k x10 0 (wrap64 ((x10.length : Int) - 1)) b5_0 b5_1 b6_0 b6_1 b6_2)))
noncomputable def spec_l24Means.l1 : Nat → List (Int) → Int → Int → Int → List (List (Int)) → Int → Int → List (I_Term) → Option (Int)
  | 0, _, _, _, _, _, _, _, _ => none
  | k + 1, x10, x12, x13, b5_0, b5_1, b6_0, b6_1, b6_2 => if x13 < (x10.length : Int) then (if 0 ≤ x13 then ((spec_l24Two.f b5_0 b5_1 b6_0 x12 (rd x10 x13)).bind fun t3 => (spec_l24Means.l1 k x10 t3 (wrap64 (x13 + 1)) b5_0 b5_1 b6_0 b6_1 b6_2)) else none) else (some x12)
noncomputable def spec_l24Means.l2 : Nat → List (Int) → Int → Int → Int → List (List (Int)) → Int → Int → List (I_Term) → Option (Int)
  | 0, _, _, _, _, _, _, _, _ => none
  | k + 1, x10, x14, x15, b5_0, b5_1, b6_0, b6_1, b6_2 => if x15 ≥ 0 then (if 0 ≤ x15 then (if x15 < (x10.length : Int) then (spec_l24Means.l2 k x10 (wrap64 ((wrap64 (x14 * b5_0)) + (rd x10 x15))) (wrap64 (x15 - 1)) b5_0 b5_1 b6_0 b6_1 b6_2) else none) else none) else (if 0 ≤ b6_0 then (if b6_0 < (b5_1.length : Int) then (if 0 ≤ x14 then (if x14 < ((rd_Ls_i64 b5_1 b6_0).length : Int) then (some (rd (rd_Ls_i64 b5_1 b6_0) x14)) else none) else none) else none) else none)
noncomputable def spec_l24Means.f : Nat → List (I_Sym) → Int → List (List (Int)) → Int → Int → List (I_Term) → List (Int) → Option (Int)
  | 0, _, _, _, _, _, _, _ => none
  | k + 1, l0, a1_0, l1_1, a2_0, a2_1, l2_2, l3 => if a2_0 < 0 then (if a2_1 ≥ (l3.length : Int) then (some 0) else (if 0 ≤ a2_1 then (if a2_1 < (l3.length : Int) then (if a1_0 = 0 then none else (if (Int.tmod (rd l3 a2_1) a1_0) < 0 then (some (wrap64 ((Int.tmod (rd l3 a2_1) a1_0) + a1_0))) else (some (Int.tmod (rd l3 a2_1) a1_0)))) else none) else none)) else (spec_l24Means.l0 k l0 l3 ([] : List (Int)) 0 a1_0 l1_1 a2_0 a2_1 l2_2)
end
noncomputable def spec_l24Means.ent (k : Nat) : Ent TT := ⟨139, [.one, .agg 2, .agg 3, .one], [.lst (.st 4), .int .i64, .lst (.lst (.int .i64)), .int .i64, .int .i64, .lst (.st 5), .lst (.int .i64)], .one, [.int .i64], fun x => spec_l24Means.f k x.1 x.2.1 x.2.2.1 x.2.2.2.1 x.2.2.2.2.1 x.2.2.2.2.2.1 x.2.2.2.2.2.2⟩
noncomputable def spec_l24Means.l0.c : Cut := ⟨[0, 3], [(5, 1), (6, 2)], [(0, .one), (3, .one), (5, .ptr 5 0), (6, .ptr 6 0), (10, .own 39), (11, .one)], [(5, [.one, .one]), (6, [.one, .one, .one])], [(39, .int .i64)], [.lst (.st 4), .lst (.int .i64), .int .i64, .int .i64, .lst (.lst (.int .i64)), .int .i64, .int .i64, .lst (.st 5), .lst (.int .i64)]⟩
noncomputable def spec_l24Means.l1.c : Cut := ⟨[], [(5, 1), (6, 2)], [(5, .ptr 5 0), (6, .ptr 6 0), (10, .own 39), (12, .one), (13, .one)], [(5, [.one, .one]), (6, [.one, .one, .one])], [(39, .int .i64)], [.int .i64, .int .i64, .int .i64, .lst (.lst (.int .i64)), .int .i64, .int .i64, .lst (.st 5), .lst (.int .i64)]⟩
noncomputable def spec_l24Means.l2.c : Cut := ⟨[], [(5, 1), (6, 2)], [(5, .ptr 5 0), (6, .ptr 6 0), (10, .own 39), (14, .one), (15, .one)], [(5, [.one, .one]), (6, [.one, .one, .one])], [(39, .int .i64)], [.int .i64, .int .i64, .int .i64, .lst (.lst (.int .i64)), .int .i64, .int .i64, .lst (.st 5), .lst (.int .i64)]⟩
@[reducible] noncomputable def spec_l24Means.us : List (CutU TT (TupT ST [.int .i64])) := [⟨10, spec_l24Means.l0.c, fun k x => spec_l24Means.l0 k x.1 x.2.1 x.2.2.2.2.2.2.2.2 x.2.2.1 x.2.2.2.1 x.2.2.2.2.1 x.2.2.2.2.2.1 x.2.2.2.2.2.2.1 x.2.2.2.2.2.2.2.1⟩, ⟨16, spec_l24Means.l1.c, fun k x => spec_l24Means.l1 k x.2.2.2.2.2.2.2 x.1 x.2.1 x.2.2.1 x.2.2.2.1 x.2.2.2.2.1 x.2.2.2.2.2.1 x.2.2.2.2.2.2.1⟩, ⟨22, spec_l24Means.l2.c, fun k x => spec_l24Means.l2 k x.2.2.2.2.2.2.2 x.1 x.2.1 x.2.2.1 x.2.2.2.1 x.2.2.2.2.1 x.2.2.2.2.2.1 x.2.2.2.2.2.2.1⟩]
noncomputable def spec_l24Means.ents (k : Nat) : Ents TT := ⟨[spec_l24Means.ent k, spec_Blind.ent, spec_l24Two.ent], []⟩
noncomputable def spec_l24Means.l0.raw (k : Nat) (x0 : List (I_Sym)) (x3 : List (Int)) (x10 : List (Int)) (x11 : Int) (b5_0 : Int) (b5_1 : List (List (Int))) (b6_0 : Int) (b6_1 : Int) (b6_2 : List (I_Term)) : Option (Int) := if x11 < (b6_2.length : Int) then (if 0 ≤ x11 then (if x11 < (b6_2.length : Int) then ((spec_l24Means.f k x0 b5_0 b5_1 ((rd_I_Term b6_2 x11).f0) ((rd_I_Term b6_2 x11).f1) ((rd_I_Term b6_2 x11).f2) x3).bind fun t1 => (if x10.length + ([t1] : List (Int)).length ≤ 1599289640401 then (spec_l24Means.l0 k x0 x3 (x10 ++ ([t1] : List (Int))) (wr .i64 (x11 + 1)) b5_0 b5_1 b6_0 b6_1 b6_2) else none)) else none) else none) else ((spec_Blind.f x0 b6_0).bind fun t2 => (if t2 = true then (if (0 : Int) ≤ 0 then (if 0 < (x10.length : Int) then (spec_l24Means.l1 k x10 (rd x10 0) 1 b5_0 b5_1 b6_0 b6_1 b6_2) else none) else none) else (spec_l24Means.l2 k x10 0 (wr .i64 ((x10.length : Int) - 1)) b5_0 b5_1 b6_0 b6_1 b6_2)))
theorem spec_l24Means.l0.clean (k : Nat) (x0 : List (I_Sym)) (x3 : List (Int)) (x10 : List (Int)) (x11 : Int) (b5_0 : Int) (b5_1 : List (List (Int))) (b6_0 : Int) (b6_1 : Int) (b6_2 : List (I_Term)) : spec_l24Means.l0.raw k x0 x3 x10 x11 b5_0 b5_1 b6_0 b6_1 b6_2 = spec_l24Means.l0 (k + 1) x0 x3 x10 x11 b5_0 b5_1 b6_0 b6_1 b6_2 := by
  rw [spec_l24Means.l0.raw, spec_l24Means.l0]
  simp only [wr_i64]
  exact ite_congr rfl (fun h0 => ite_congr rfl (fun h1 => if_pos h0) (fun h1 => rfl)) (fun h0 => bind_cg fun t2 => (ite_congr rfl (fun h1 => if_pos (by decide)) (fun h1 => rfl)))
theorem spec_l24Means.l0.chk (k : Nat) (x : TupT ST [.lst (.st 4), .lst (.int .i64), .int .i64, .int .i64, .lst (.lst (.int .i64)), .int .i64, .int .i64, .lst (.st 5), .lst (.int .i64)]) : runU TT (calOf (spec_l24Means.ents k)) (jmps spec_l24Means.us k) (finK Tryz.f139 (retK TT (.one) [.int .i64])) Tryz.f139 (some 10) (canonC spec_l24Means.l0.c x) = spec_l24Means.l0 (k + 1) x.1 x.2.1 x.2.2.2.2.2.2.2.2 x.2.2.1 x.2.2.2.1 x.2.2.2.2.1 x.2.2.2.2.2.1 x.2.2.2.2.2.2.1 x.2.2.2.2.2.2.2.1 := Eq.trans (show _ = spec_l24Means.l0.raw k x.1 x.2.1 x.2.2.2.2.2.2.2.2 x.2.2.1 x.2.2.2.1 x.2.2.2.2.1 x.2.2.2.2.2.1 x.2.2.2.2.2.2.1 x.2.2.2.2.2.2.2.1 by kernel_rfl) (spec_l24Means.l0.clean k x.1 x.2.1 x.2.2.2.2.2.2.2.2 x.2.2.1 x.2.2.2.1 x.2.2.2.2.1 x.2.2.2.2.2.1 x.2.2.2.2.2.2.1 x.2.2.2.2.2.2.2.1)
noncomputable def spec_l24Means.l1.raw (k : Nat) (x10 : List (Int)) (x12 : Int) (x13 : Int) (b5_0 : Int) (b5_1 : List (List (Int))) (b6_0 : Int) (b6_1 : Int) (b6_2 : List (I_Term)) : Option (Int) := if x13 < (x10.length : Int) then (if 0 ≤ x13 then (if x13 < (x10.length : Int) then ((spec_l24Two.f b5_0 b5_1 b6_0 x12 (rd x10 x13)).bind fun t3 => (spec_l24Means.l1 k x10 t3 (wr .i64 (x13 + 1)) b5_0 b5_1 b6_0 b6_1 b6_2)) else none) else none) else (some x12)
theorem spec_l24Means.l1.clean (k : Nat) (x10 : List (Int)) (x12 : Int) (x13 : Int) (b5_0 : Int) (b5_1 : List (List (Int))) (b6_0 : Int) (b6_1 : Int) (b6_2 : List (I_Term)) : spec_l24Means.l1.raw k x10 x12 x13 b5_0 b5_1 b6_0 b6_1 b6_2 = spec_l24Means.l1 (k + 1) x10 x12 x13 b5_0 b5_1 b6_0 b6_1 b6_2 := by
  rw [spec_l24Means.l1.raw, spec_l24Means.l1]
  simp only [wr_i64]
  exact ite_congr rfl (fun h0 => ite_congr rfl (fun h1 => if_pos h0) (fun h1 => rfl)) (fun h0 => rfl)
theorem spec_l24Means.l1.chk (k : Nat) (x : TupT ST [.int .i64, .int .i64, .int .i64, .lst (.lst (.int .i64)), .int .i64, .int .i64, .lst (.st 5), .lst (.int .i64)]) : runU TT (calOf (spec_l24Means.ents k)) (jmps spec_l24Means.us k) (finK Tryz.f139 (retK TT (.one) [.int .i64])) Tryz.f139 (some 16) (canonC spec_l24Means.l1.c x) = spec_l24Means.l1 (k + 1) x.2.2.2.2.2.2.2 x.1 x.2.1 x.2.2.1 x.2.2.2.1 x.2.2.2.2.1 x.2.2.2.2.2.1 x.2.2.2.2.2.2.1 := Eq.trans (show _ = spec_l24Means.l1.raw k x.2.2.2.2.2.2.2 x.1 x.2.1 x.2.2.1 x.2.2.2.1 x.2.2.2.2.1 x.2.2.2.2.2.1 x.2.2.2.2.2.2.1 by kernel_rfl) (spec_l24Means.l1.clean k x.2.2.2.2.2.2.2 x.1 x.2.1 x.2.2.1 x.2.2.2.1 x.2.2.2.2.1 x.2.2.2.2.2.1 x.2.2.2.2.2.2.1)
noncomputable def spec_l24Means.l2.raw (k : Nat) (x10 : List (Int)) (x14 : Int) (x15 : Int) (b5_0 : Int) (b5_1 : List (List (Int))) (b6_0 : Int) (b6_1 : Int) (b6_2 : List (I_Term)) : Option (Int) := if x15 ≥ 0 then (if 0 ≤ x15 then (if x15 < (x10.length : Int) then (spec_l24Means.l2 k x10 (wr .i64 ((wr .i64 (x14 * b5_0)) + (rd x10 x15))) (wr .i64 (x15 - 1)) b5_0 b5_1 b6_0 b6_1 b6_2) else none) else none) else (if 0 ≤ b6_0 then (if b6_0 < (b5_1.length : Int) then (if 0 ≤ x14 then (if x14 < ((rd_Ls_i64 b5_1 b6_0).length : Int) then (some (rd (rd_Ls_i64 b5_1 b6_0) x14)) else none) else none) else none) else none)
theorem spec_l24Means.l2.clean (k : Nat) (x10 : List (Int)) (x14 : Int) (x15 : Int) (b5_0 : Int) (b5_1 : List (List (Int))) (b6_0 : Int) (b6_1 : Int) (b6_2 : List (I_Term)) : spec_l24Means.l2.raw k x10 x14 x15 b5_0 b5_1 b6_0 b6_1 b6_2 = spec_l24Means.l2 (k + 1) x10 x14 x15 b5_0 b5_1 b6_0 b6_1 b6_2 := by
  rw [spec_l24Means.l2.raw, spec_l24Means.l2]
  simp only [wr_i64]
theorem spec_l24Means.l2.chk (k : Nat) (x : TupT ST [.int .i64, .int .i64, .int .i64, .lst (.lst (.int .i64)), .int .i64, .int .i64, .lst (.st 5), .lst (.int .i64)]) : runU TT (calOf (spec_l24Means.ents k)) (jmps spec_l24Means.us k) (finK Tryz.f139 (retK TT (.one) [.int .i64])) Tryz.f139 (some 22) (canonC spec_l24Means.l2.c x) = spec_l24Means.l2 (k + 1) x.2.2.2.2.2.2.2 x.1 x.2.1 x.2.2.1 x.2.2.2.1 x.2.2.2.2.1 x.2.2.2.2.2.1 x.2.2.2.2.2.2.1 := Eq.trans (show _ = spec_l24Means.l2.raw k x.2.2.2.2.2.2.2 x.1 x.2.1 x.2.2.1 x.2.2.2.1 x.2.2.2.2.1 x.2.2.2.2.2.1 x.2.2.2.2.2.2.1 by kernel_rfl) (spec_l24Means.l2.clean k x.2.2.2.2.2.2.2 x.1 x.2.1 x.2.2.1 x.2.2.2.1 x.2.2.2.2.1 x.2.2.2.2.2.1 x.2.2.2.2.2.2.1)
noncomputable def spec_l24Means.raw (k : Nat) (l0 : List (I_Sym)) (a1_0 : Int) (l1_1 : List (List (Int))) (a2_0 : Int) (a2_1 : Int) (l2_2 : List (I_Term)) (l3 : List (Int)) : Option (Int) := if a2_0 < 0 then (if a2_1 ≥ (l3.length : Int) then (some 0) else (if 0 ≤ a2_1 then (if a2_1 < (l3.length : Int) then (if a1_0 = 0 then none else (if (Int.tmod (rd l3 a2_1) a1_0) < 0 then (some (wr .i64 ((Int.tmod (rd l3 a2_1) a1_0) + a1_0))) else (some (Int.tmod (rd l3 a2_1) a1_0)))) else none) else none)) else (spec_l24Means.l0 k l0 l3 ([] : List (Int)) 0 a1_0 l1_1 a2_0 a2_1 l2_2)
theorem spec_l24Means.clean (k : Nat) (l0 : List (I_Sym)) (a1_0 : Int) (l1_1 : List (List (Int))) (a2_0 : Int) (a2_1 : Int) (l2_2 : List (I_Term)) (l3 : List (Int)) : spec_l24Means.raw k l0 a1_0 l1_1 a2_0 a2_1 l2_2 l3 = spec_l24Means.f (k + 1) l0 a1_0 l1_1 a2_0 a2_1 l2_2 l3 := by
  rw [spec_l24Means.raw, spec_l24Means.f]
  simp only [wr_i64]
theorem spec_l24Means.chk (k : Nat) (x : TupT ST [.lst (.st 4), .int .i64, .lst (.lst (.int .i64)), .int .i64, .int .i64, .lst (.st 5), .lst (.int .i64)]) : runU TT (calOf (spec_l24Means.ents k)) (jmps spec_l24Means.us k) (finK Tryz.f139 (retK TT (.one) [.int .i64])) Tryz.f139 none (canon (args0 0 (argL [.one, .agg 2, .agg 3, .one] [.lst (.st 4), .int .i64, .lst (.lst (.int .i64)), .int .i64, .int .i64, .lst (.st 5), .lst (.int .i64)] x)) []) = spec_l24Means.f (k + 1) x.1 x.2.1 x.2.2.1 x.2.2.2.1 x.2.2.2.2.1 x.2.2.2.2.2.1 x.2.2.2.2.2.2 := Eq.trans (show _ = spec_l24Means.raw k x.1 x.2.1 x.2.2.1 x.2.2.2.1 x.2.2.2.2.1 x.2.2.2.2.2.1 x.2.2.2.2.2.2 by kernel_rfl) (spec_l24Means.clean k x.1 x.2.1 x.2.2.1 x.2.2.2.1 x.2.2.2.2.1 x.2.2.2.2.2.1 x.2.2.2.2.2.2)
theorem spec_l24Means.grp : ∀ k : Nat, EachU (EntOk Tryz.prog TT) [spec_l24Means.ent k] ∧ EachU (Ent2Ok Tryz.prog TT) [] := by
  intro k
  induction k using Nat.strongRecOn with
  | ind k ih =>
    exact And.intro (And.intro (fun_in tbl mixed 139 Tryz.f139 Tryz.func139 rfl (by kernel_rfl) [.one, .agg 2, .agg 3, .one] [.lst (.st 4), .int .i64, .lst (.lst (.int .i64)), .int .i64, .int .i64, .lst (.st 5), .lst (.int .i64)] (.one) [.int .i64] (by kernel_rfl) spec_l24Means.ents spec_l24Means.us (And.intro (fun _ => rfl) (And.intro (fun _ => rfl) (And.intro (fun _ => rfl) True.intro))) (And.intro spec_l24Means.l0.chk (And.intro spec_l24Means.l1.chk (And.intro spec_l24Means.l2.chk True.intro))) (fun k (x : TupT ST [.lst (.st 4), .int .i64, .lst (.lst (.int .i64)), .int .i64, .int .i64, .lst (.st 5), .lst (.int .i64)]) => spec_l24Means.f k x.1 x.2.1 x.2.2.1 x.2.2.2.1 x.2.2.2.2.1 x.2.2.2.2.2.1 x.2.2.2.2.2.2) (fun _ => rfl) spec_l24Means.chk k (fun j h => EntsOk.mk (And.intro (ih j h).1.1 (And.intro spec_Blind.ok (And.intro spec_l24Two.ok True.intro))) True.intro)) True.intro) True.intro
theorem spec_l24Means.ok (k : Nat) : EntOk Tryz.prog TT (spec_l24Means.ent k) := (spec_l24Means.grp k).1.1
noncomputable def spec_l24Some.l0 : Nat → List (I_Sym) → List (Int) → Int → Int → List (List (Int)) → List (I_Lit) → Option (Bool)
  | 0, _, _, _, _, _, _ => none
  | k + 1, x0, x3, x9, b5_0, b5_1, b6_0 => if x9 < (b6_0.length : Int) then (if 0 ≤ x9 then ((spec_l24Means.f k x0 b5_0 b5_1 ((rd_I_Lit b6_0 x9).f1.f0) ((rd_I_Lit b6_0 x9).f1.f1) ((rd_I_Lit b6_0 x9).f1.f2) x3).bind fun t1 => ((spec_l24Means.f k x0 b5_0 b5_1 ((rd_I_Lit b6_0 x9).f2.f0) ((rd_I_Lit b6_0 x9).f2.f1) ((rd_I_Lit b6_0 x9).f2.f2) x3).bind fun t2 => (if (decide (t1 = t2)) = ((rd_I_Lit b6_0 x9).f0) then (some true) else (spec_l24Some.l0 k x0 x3 (wrap64 (x9 + 1)) b5_0 b5_1 b6_0)))) else none) else (some false)
noncomputable def spec_l24Some.f (k : Nat) (l0 : List (I_Sym)) (a1_0 : Int) (l1_1 : List (List (Int))) (l2_0 : List (I_Lit)) (l3 : List (Int)) : Option (Bool) := spec_l24Some.l0 k l0 l3 0 a1_0 l1_1 l2_0
noncomputable def spec_l24Some.l0.c : Cut := ⟨[0, 3], [(5, 1), (6, 0)], [(0, .one), (3, .one), (5, .ptr 5 0), (6, .ptr 6 0), (9, .one)], [(5, [.one, .one]), (6, [.one])], [], [.lst (.st 4), .lst (.int .i64), .int .i64, .int .i64, .lst (.lst (.int .i64)), .lst (.st 6)]⟩
@[reducible] noncomputable def spec_l24Some.us : List (CutU TT (TupT ST [.bool])) := [⟨2, spec_l24Some.l0.c, fun k x => spec_l24Some.l0 k x.1 x.2.1 x.2.2.1 x.2.2.2.1 x.2.2.2.2.1 x.2.2.2.2.2⟩]
noncomputable def spec_l24Some.ent (k : Nat) : Ent TT := ⟨106, [.one, .agg 2, .agg 1, .one], [.lst (.st 4), .int .i64, .lst (.lst (.int .i64)), .lst (.st 6), .lst (.int .i64)], .one, [.bool], fun x => spec_l24Some.f k x.1 x.2.1 x.2.2.1 x.2.2.2.1 x.2.2.2.2⟩
noncomputable def spec_l24Some.ents (k : Nat) : Ents TT := ⟨[spec_l24Means.ent k], []⟩
noncomputable def spec_l24Some.l0.raw (k : Nat) (x0 : List (I_Sym)) (x3 : List (Int)) (x9 : Int) (b5_0 : Int) (b5_1 : List (List (Int))) (b6_0 : List (I_Lit)) : Option (Bool) := if x9 < (b6_0.length : Int) then (if 0 ≤ x9 then (if x9 < (b6_0.length : Int) then ((spec_l24Means.f k x0 b5_0 b5_1 ((rd_I_Lit b6_0 x9).f1.f0) ((rd_I_Lit b6_0 x9).f1.f1) ((rd_I_Lit b6_0 x9).f1.f2) x3).bind fun t1 => (if 0 ≤ x9 then (if x9 < (b6_0.length : Int) then ((spec_l24Means.f k x0 b5_0 b5_1 ((rd_I_Lit b6_0 x9).f2.f0) ((rd_I_Lit b6_0 x9).f2.f1) ((rd_I_Lit b6_0 x9).f2.f2) x3).bind fun t2 => (if 0 ≤ x9 then (if x9 < (b6_0.length : Int) then (if (decide (t1 = t2)) = ((rd_I_Lit b6_0 x9).f0) then (some true) else (spec_l24Some.l0 k x0 x3 (wr .i64 (x9 + 1)) b5_0 b5_1 b6_0)) else none) else none)) else none) else none)) else none) else none) else (some false)
theorem spec_l24Some.l0.clean (k : Nat) (x0 : List (I_Sym)) (x3 : List (Int)) (x9 : Int) (b5_0 : Int) (b5_1 : List (List (Int))) (b6_0 : List (I_Lit)) : spec_l24Some.l0.raw k x0 x3 x9 b5_0 b5_1 b6_0 = spec_l24Some.l0 (k + 1) x0 x3 x9 b5_0 b5_1 b6_0 := by
  rw [spec_l24Some.l0.raw, spec_l24Some.l0]
  simp only [wr_i64]
  exact ite_congr rfl (fun h0 => ite_congr rfl (fun h1 => Eq.trans (if_pos h0) (bind_cg fun t1 => (Eq.trans (if_pos h1) (Eq.trans (if_pos h0) (bind_cg fun t2 => (Eq.trans (if_pos h1) (if_pos h0))))))) (fun h1 => rfl)) (fun h0 => rfl)
theorem spec_l24Some.l0.chk (k : Nat) (x : TupT ST [.lst (.st 4), .lst (.int .i64), .int .i64, .int .i64, .lst (.lst (.int .i64)), .lst (.st 6)]) : runU TT (calOf (spec_l24Some.ents k)) (jmps spec_l24Some.us k) (finK Tryz.f106 (retK TT (.one) [.bool])) Tryz.f106 (some 2) (canonC spec_l24Some.l0.c x) = spec_l24Some.l0 (k + 1) x.1 x.2.1 x.2.2.1 x.2.2.2.1 x.2.2.2.2.1 x.2.2.2.2.2 := Eq.trans (show _ = spec_l24Some.l0.raw k x.1 x.2.1 x.2.2.1 x.2.2.2.1 x.2.2.2.2.1 x.2.2.2.2.2 by kernel_rfl) (spec_l24Some.l0.clean k x.1 x.2.1 x.2.2.1 x.2.2.2.1 x.2.2.2.2.1 x.2.2.2.2.2)
theorem spec_l24Some.chk (k : Nat) (x : TupT ST [.lst (.st 4), .int .i64, .lst (.lst (.int .i64)), .lst (.st 6), .lst (.int .i64)]) : runU TT (calOf (spec_l24Some.ents k)) (jmps spec_l24Some.us k) (finK Tryz.f106 (retK TT (.one) [.bool])) Tryz.f106 none (canon (args0 0 (argL [.one, .agg 2, .agg 1, .one] [.lst (.st 4), .int .i64, .lst (.lst (.int .i64)), .lst (.st 6), .lst (.int .i64)] x)) []) = spec_l24Some.f k x.1 x.2.1 x.2.2.1 x.2.2.2.1 x.2.2.2.2 := by kernel_rfl
theorem spec_l24Some.ok (k : Nat) : EntOk Tryz.prog TT (spec_l24Some.ent k) :=
  fun_of tbl mixed 106 Tryz.f106 Tryz.func106 rfl (by kernel_rfl) [.one, .agg 2, .agg 1, .one] [.lst (.st 4), .int .i64, .lst (.lst (.int .i64)), .lst (.st 6), .lst (.int .i64)] (.one) [.bool] (by kernel_rfl) spec_l24Some.ents spec_l24Some.us (And.intro (fun _ => rfl) True.intro) (And.intro spec_l24Some.l0.chk True.intro) (fun k (x : TupT ST [.lst (.st 4), .int .i64, .lst (.lst (.int .i64)), .lst (.st 6), .lst (.int .i64)]) => spec_l24Some.f k x.1 x.2.1 x.2.2.1 x.2.2.2.1 x.2.2.2.2) spec_l24Some.chk (fun k => EntsOk.mk (And.intro (spec_l24Means.ok k) True.intro) True.intro) k
mutual
noncomputable def spec_True.l0 : Nat → List (I_Sym) → List (Int) → Int → Int → Int → List (List (Int)) → List (I_Lit) → Option (Bool)
  | 0, _, _, _, _, _, _, _ => none
  | k + 1, x0, x7, x8, x9, b4_0, b4_1, b5_0 => if x9 < x8 then (spec_True.l1 k x0 x7 x8 x9 (List.replicate (100 : Int).toNat 0) x9 0 b4_0 b4_1 b5_0) else (some true)
noncomputable def spec_True.l1 : Nat → List (I_Sym) → List (Int) → Int → Int → List (Int) → Int → Int → Int → List (List (Int)) → List (I_Lit) → Option (Bool)
  | 0, _, _, _, _, _, _, _, _, _, _ => none
  | k + 1, x0, x7, x8, x9, x10, x11, x12, b4_0, b4_1, b5_0 => if x12 < (x7.length : Int) then (if 0 ≤ x12 then (if b4_0 = 0 then none else (if 0 ≤ (rd x7 x12) then (if (rd x7 x12) < (x10.length : Int) then (spec_True.l1 k x0 x7 x8 x9 (x10.set (rd x7 x12 : Int).toNat (Int.tmod x11 b4_0)) (wrap64 (Int.tdiv x11 b4_0)) (wrap64 (x12 + 1)) b4_0 b4_1 b5_0) else none) else none)) else none) else ((spec_l24Some.f k x0 b4_0 b4_1 b5_0 x10).bind fun t5 => (if t5 = true then (spec_True.l0 k x0 x7 x8 (wrap64 (x9 + 1)) b4_0 b4_1 b5_0) else (some false)))
end
noncomputable def spec_True.f (k : Nat) (l0 : List (I_Sym)) (a1_0 : Int) (l1_1 : List (List (Int))) (l2_0 : List (I_Lit)) : Option (Bool) := (spec_ClauseVars.f k l2_0).bind fun t1 => ((spec_WorldOk.f k l0 a1_0 l1_1).bind fun t2 => (if t2 = true then ((spec_ClauseOk.f k l0 l2_0).bind fun t3 => (if t3 = true then (if (t1.length : Int) > 4 then (some false) else ((spec_l24Power.f k a1_0 (t1.length : Int)).bind fun t4 => (spec_True.l0 k l0 t1 t4 0 a1_0 l1_1 l2_0))) else (some false))) else (some false)))
noncomputable def spec_True.l0.c : Cut := ⟨[0, 7], [(4, 1), (5, 0)], [(0, .one), (4, .ptr 4 0), (5, .ptr 5 0), (7, .one), (8, .one), (9, .one)], [(4, [.one, .one]), (5, [.one])], [], [.lst (.st 4), .lst (.int .i64), .int .i64, .int .i64, .int .i64, .lst (.lst (.int .i64)), .lst (.st 6)]⟩
noncomputable def spec_True.l1.c : Cut := ⟨[0, 7], [(4, 1), (5, 0)], [(0, .one), (4, .ptr 4 0), (5, .ptr 5 0), (7, .one), (8, .one), (9, .one), (10, .own 40), (11, .one), (12, .one)], [(4, [.one, .one]), (5, [.one])], [(40, .int .i64)], [.lst (.st 4), .lst (.int .i64), .int .i64, .int .i64, .int .i64, .int .i64, .int .i64, .lst (.lst (.int .i64)), .lst (.st 6), .lst (.int .i64)]⟩
@[reducible] noncomputable def spec_True.us : List (CutU TT (TupT ST [.bool])) := [⟨6, spec_True.l0.c, fun k x => spec_True.l0 k x.1 x.2.1 x.2.2.1 x.2.2.2.1 x.2.2.2.2.1 x.2.2.2.2.2.1 x.2.2.2.2.2.2⟩, ⟨11, spec_True.l1.c, fun k x => spec_True.l1 k x.1 x.2.1 x.2.2.1 x.2.2.2.1 x.2.2.2.2.2.2.2.2.2 x.2.2.2.2.1 x.2.2.2.2.2.1 x.2.2.2.2.2.2.1 x.2.2.2.2.2.2.2.1 x.2.2.2.2.2.2.2.2.1⟩]
noncomputable def spec_True.ent (k : Nat) : Ent TT := ⟨27, [.one, .agg 2, .agg 1], [.lst (.st 4), .int .i64, .lst (.lst (.int .i64)), .lst (.st 6)], .one, [.bool], fun x => spec_True.f k x.1 x.2.1 x.2.2.1 x.2.2.2⟩
noncomputable def spec_True.ents (k : Nat) : Ents TT := ⟨[spec_ClauseVars.ent k, spec_WorldOk.ent k, spec_ClauseOk.ent k, spec_l24Power.ent k, spec_l24Some.ent k], []⟩
noncomputable def spec_True.l0.raw (k : Nat) (x0 : List (I_Sym)) (x7 : List (Int)) (x8 : Int) (x9 : Int) (b4_0 : Int) (b4_1 : List (List (Int))) (b5_0 : List (I_Lit)) : Option (Bool) := if x9 < x8 then (if (0 : Int) ≤ 100 then (if (100 : Int) ≤ 100 then (if (100 : Int) ≤ 1599289640401 then (spec_True.l1 k x0 x7 x8 x9 (List.replicate (100 : Int).toNat 0) x9 0 b4_0 b4_1 b5_0) else none) else none) else none) else (some true)
theorem spec_True.l0.clean (k : Nat) (x0 : List (I_Sym)) (x7 : List (Int)) (x8 : Int) (x9 : Int) (b4_0 : Int) (b4_1 : List (List (Int))) (b5_0 : List (I_Lit)) : spec_True.l0.raw k x0 x7 x8 x9 b4_0 b4_1 b5_0 = spec_True.l0 (k + 1) x0 x7 x8 x9 b4_0 b4_1 b5_0 := by
  rw [spec_True.l0.raw, spec_True.l0]
  exact ite_congr rfl (fun h0 => Eq.trans (if_pos (by decide)) (Eq.trans (if_pos (by decide)) (if_pos (by decide)))) (fun h0 => rfl)
theorem spec_True.l0.chk (k : Nat) (x : TupT ST [.lst (.st 4), .lst (.int .i64), .int .i64, .int .i64, .int .i64, .lst (.lst (.int .i64)), .lst (.st 6)]) : runU TT (calOf (spec_True.ents k)) (jmps spec_True.us k) (finK Tryz.f27 (retK TT (.one) [.bool])) Tryz.f27 (some 6) (canonC spec_True.l0.c x) = spec_True.l0 (k + 1) x.1 x.2.1 x.2.2.1 x.2.2.2.1 x.2.2.2.2.1 x.2.2.2.2.2.1 x.2.2.2.2.2.2 := Eq.trans (show _ = spec_True.l0.raw k x.1 x.2.1 x.2.2.1 x.2.2.2.1 x.2.2.2.2.1 x.2.2.2.2.2.1 x.2.2.2.2.2.2 by kernel_rfl) (spec_True.l0.clean k x.1 x.2.1 x.2.2.1 x.2.2.2.1 x.2.2.2.2.1 x.2.2.2.2.2.1 x.2.2.2.2.2.2)
noncomputable def spec_True.l1.raw (k : Nat) (x0 : List (I_Sym)) (x7 : List (Int)) (x8 : Int) (x9 : Int) (x10 : List (Int)) (x11 : Int) (x12 : Int) (b4_0 : Int) (b4_1 : List (List (Int))) (b5_0 : List (I_Lit)) : Option (Bool) := if x12 < (x7.length : Int) then (if 0 ≤ x12 then (if x12 < (x7.length : Int) then (if b4_0 = 0 then none else (if 0 ≤ (rd x7 x12) then (if (rd x7 x12) < (x10.length : Int) then (if b4_0 = 0 then none else (spec_True.l1 k x0 x7 x8 x9 (x10.set (rd x7 x12 : Int).toNat (Int.tmod x11 b4_0)) (wr .i64 (Int.tdiv x11 b4_0)) (wr .i64 (x12 + 1)) b4_0 b4_1 b5_0)) else none) else none)) else none) else none) else ((spec_l24Some.f k x0 b4_0 b4_1 b5_0 x10).bind fun t5 => (if (!t5) = true then (some false) else (spec_True.l0 k x0 x7 x8 (wr .i64 (x9 + 1)) b4_0 b4_1 b5_0)))
theorem spec_True.l1.clean (k : Nat) (x0 : List (I_Sym)) (x7 : List (Int)) (x8 : Int) (x9 : Int) (x10 : List (Int)) (x11 : Int) (x12 : Int) (b4_0 : Int) (b4_1 : List (List (Int))) (b5_0 : List (I_Lit)) : spec_True.l1.raw k x0 x7 x8 x9 x10 x11 x12 b4_0 b4_1 b5_0 = spec_True.l1 (k + 1) x0 x7 x8 x9 x10 x11 x12 b4_0 b4_1 b5_0 := by
  rw [spec_True.l1.raw, spec_True.l1]
  simp only [wr_i64]
  exact ite_congr rfl (fun h0 => ite_congr rfl (fun h1 => Eq.trans (if_pos h0) (ite_congr rfl (fun h2 => rfl) (fun h2 => ite_congr rfl (fun h3 => ite_congr rfl (fun h4 => if_neg h2) (fun h4 => rfl)) (fun h3 => rfl)))) (fun h1 => rfl)) (fun h0 => bind_cg fun t5 => (ite_nb _ _ _))
theorem spec_True.l1.chk (k : Nat) (x : TupT ST [.lst (.st 4), .lst (.int .i64), .int .i64, .int .i64, .int .i64, .int .i64, .int .i64, .lst (.lst (.int .i64)), .lst (.st 6), .lst (.int .i64)]) : runU TT (calOf (spec_True.ents k)) (jmps spec_True.us k) (finK Tryz.f27 (retK TT (.one) [.bool])) Tryz.f27 (some 11) (canonC spec_True.l1.c x) = spec_True.l1 (k + 1) x.1 x.2.1 x.2.2.1 x.2.2.2.1 x.2.2.2.2.2.2.2.2.2 x.2.2.2.2.1 x.2.2.2.2.2.1 x.2.2.2.2.2.2.1 x.2.2.2.2.2.2.2.1 x.2.2.2.2.2.2.2.2.1 := Eq.trans (show _ = spec_True.l1.raw k x.1 x.2.1 x.2.2.1 x.2.2.2.1 x.2.2.2.2.2.2.2.2.2 x.2.2.2.2.1 x.2.2.2.2.2.1 x.2.2.2.2.2.2.1 x.2.2.2.2.2.2.2.1 x.2.2.2.2.2.2.2.2.1 by kernel_rfl) (spec_True.l1.clean k x.1 x.2.1 x.2.2.1 x.2.2.2.1 x.2.2.2.2.2.2.2.2.2 x.2.2.2.2.1 x.2.2.2.2.2.1 x.2.2.2.2.2.2.1 x.2.2.2.2.2.2.2.1 x.2.2.2.2.2.2.2.2.1)
noncomputable def spec_True.raw (k : Nat) (l0 : List (I_Sym)) (a1_0 : Int) (l1_1 : List (List (Int))) (l2_0 : List (I_Lit)) : Option (Bool) := (spec_ClauseVars.f k l2_0).bind fun t1 => ((spec_WorldOk.f k l0 a1_0 l1_1).bind fun t2 => (if (!t2) = true then (some false) else ((spec_ClauseOk.f k l0 l2_0).bind fun t3 => (if (!t3) = true then (some false) else (if (t1.length : Int) > 4 then (some false) else ((spec_l24Power.f k a1_0 (t1.length : Int)).bind fun t4 => (spec_True.l0 k l0 t1 t4 0 a1_0 l1_1 l2_0)))))))
theorem spec_True.clean (k : Nat) (l0 : List (I_Sym)) (a1_0 : Int) (l1_1 : List (List (Int))) (l2_0 : List (I_Lit)) : spec_True.raw k l0 a1_0 l1_1 l2_0 = spec_True.f k l0 a1_0 l1_1 l2_0 := by
  rw [spec_True.raw, spec_True.f]
  exact bind_cg fun t1 => (bind_cg fun t2 => (Eq.trans (ite_nb _ _ _) (ite_congr rfl (fun h0 => bind_cg fun t3 => (ite_nb _ _ _)) (fun h0 => rfl))))
theorem spec_True.chk (k : Nat) (x : TupT ST [.lst (.st 4), .int .i64, .lst (.lst (.int .i64)), .lst (.st 6)]) : runU TT (calOf (spec_True.ents k)) (jmps spec_True.us k) (finK Tryz.f27 (retK TT (.one) [.bool])) Tryz.f27 none (canon (args0 0 (argL [.one, .agg 2, .agg 1] [.lst (.st 4), .int .i64, .lst (.lst (.int .i64)), .lst (.st 6)] x)) []) = spec_True.f k x.1 x.2.1 x.2.2.1 x.2.2.2 := Eq.trans (show _ = spec_True.raw k x.1 x.2.1 x.2.2.1 x.2.2.2 by kernel_rfl) (spec_True.clean k x.1 x.2.1 x.2.2.1 x.2.2.2)
theorem spec_True.ok (k : Nat) : EntOk Tryz.prog TT (spec_True.ent k) :=
  fun_of tbl mixed 27 Tryz.f27 Tryz.func27 rfl (by kernel_rfl) [.one, .agg 2, .agg 1] [.lst (.st 4), .int .i64, .lst (.lst (.int .i64)), .lst (.st 6)] (.one) [.bool] (by kernel_rfl) spec_True.ents spec_True.us (And.intro (fun _ => rfl) (And.intro (fun _ => rfl) True.intro)) (And.intro spec_True.l0.chk (And.intro spec_True.l1.chk True.intro)) (fun k (x : TupT ST [.lst (.st 4), .int .i64, .lst (.lst (.int .i64)), .lst (.st 6)]) => spec_True.f k x.1 x.2.1 x.2.2.1 x.2.2.2) spec_True.chk (fun k => EntsOk.mk (And.intro (spec_ClauseVars.ok k) (And.intro (spec_WorldOk.ok k) (And.intro (spec_ClauseOk.ok k) (And.intro (spec_l24Power.ok k) (And.intro (spec_l24Some.ok k) True.intro))))) True.intro) k
noncomputable def laws_toIntS.l0 : Nat → List (Int) → List (Int) → Int → Option ((List (Int)))
  | 0, _, _, _ => none
  | k + 1, x0, x3, x4 => if x4 < (x0.length : Int) then (if 0 ≤ x4 then (if x4 < (x3.length : Int) then (laws_toIntS.l0 k x0 (x3.set (x4 : Int).toNat (rd x0 x4)) (wrap64 (x4 + 1))) else none) else none) else (some x3)
noncomputable def laws_toIntS.f (k : Nat) (l0 : List (Int)) : Option ((List (Int))) := if 0 ≤ (l0.length : Int) then (if (l0.length : Int) ≤ 1599289640401 then (laws_toIntS.l0 k l0 (List.replicate ((l0.length : Int) : Int).toNat 0) 0) else none) else none
noncomputable def laws_toIntS.l0.c : Cut := ⟨[0], [], [(0, .one), (3, .own 7), (4, .one)], [], [(7, .int .i64)], [.lst (.int .i64), .int .i64, .lst (.int .i64)]⟩
@[reducible] noncomputable def laws_toIntS.us : List (CutU TT (TupT ST [.lst (.int .i64)])) := [⟨3, laws_toIntS.l0.c, fun k x => laws_toIntS.l0 k x.1 x.2.2 x.2.1⟩]
noncomputable def laws_toIntS.ent (k : Nat) : Ent TT := ⟨221, [.one], [.lst (.int .i64)], .one, [.lst (.int .i64)], fun x => laws_toIntS.f k x⟩
noncomputable def laws_toIntS.ents (k : Nat) : Ents TT := ⟨[], []⟩
noncomputable def laws_toIntS.l0.raw (k : Nat) (x0 : List (Int)) (x3 : List (Int)) (x4 : Int) : Option ((List (Int))) := if x4 < (x0.length : Int) then (if 0 ≤ x4 then (if x4 < (x0.length : Int) then (if 0 ≤ x4 then (if x4 < (x3.length : Int) then (laws_toIntS.l0 k x0 (x3.set (x4 : Int).toNat (rd x0 x4)) (wr .i64 (x4 + 1))) else none) else none) else none) else none) else (some x3)
theorem laws_toIntS.l0.clean (k : Nat) (x0 : List (Int)) (x3 : List (Int)) (x4 : Int) : laws_toIntS.l0.raw k x0 x3 x4 = laws_toIntS.l0 (k + 1) x0 x3 x4 := by
  rw [laws_toIntS.l0.raw, laws_toIntS.l0]
  simp only [wr_i64]
  exact ite_congr rfl (fun h0 => ite_congr rfl (fun h1 => Eq.trans (if_pos h0) (if_pos h1)) (fun h1 => rfl)) (fun h0 => rfl)
theorem laws_toIntS.l0.chk (k : Nat) (x : TupT ST [.lst (.int .i64), .int .i64, .lst (.int .i64)]) : runU TT (calOf (laws_toIntS.ents k)) (jmps laws_toIntS.us k) (finK Tryz.f221 (retK TT (.one) [.lst (.int .i64)])) Tryz.f221 (some 3) (canonC laws_toIntS.l0.c x) = laws_toIntS.l0 (k + 1) x.1 x.2.2 x.2.1 := Eq.trans (show _ = laws_toIntS.l0.raw k x.1 x.2.2 x.2.1 by kernel_rfl) (laws_toIntS.l0.clean k x.1 x.2.2 x.2.1)
noncomputable def laws_toIntS.raw (k : Nat) (l0 : List (Int)) : Option ((List (Int))) := if 0 ≤ (l0.length : Int) then (if (l0.length : Int) ≤ (l0.length : Int) then (if (l0.length : Int) ≤ 1599289640401 then (laws_toIntS.l0 k l0 (List.replicate ((l0.length : Int) : Int).toNat 0) 0) else none) else none) else none
theorem laws_toIntS.clean (k : Nat) (l0 : List (Int)) : laws_toIntS.raw k l0 = laws_toIntS.f k l0 := by
  rw [laws_toIntS.raw, laws_toIntS.f]
  exact ite_congr rfl (fun h0 => if_pos (Int.le_refl _)) (fun h0 => rfl)
theorem laws_toIntS.chk (k : Nat) (x : TupT ST [.lst (.int .i64)]) : runU TT (calOf (laws_toIntS.ents k)) (jmps laws_toIntS.us k) (finK Tryz.f221 (retK TT (.one) [.lst (.int .i64)])) Tryz.f221 none (canon (args0 0 (argL [.one] [.lst (.int .i64)] x)) []) = laws_toIntS.f k x := Eq.trans (show _ = laws_toIntS.raw k x by kernel_rfl) (laws_toIntS.clean k x)
theorem laws_toIntS.ok (k : Nat) : EntOk Tryz.prog TT (laws_toIntS.ent k) :=
  fun_of tbl mixed 221 Tryz.f221 Tryz.func221 rfl (by kernel_rfl) [.one] [.lst (.int .i64)] (.one) [.lst (.int .i64)] (by kernel_rfl) laws_toIntS.ents laws_toIntS.us (And.intro (fun _ => rfl) True.intro) (And.intro laws_toIntS.l0.chk True.intro) (fun k (x : TupT ST [.lst (.int .i64)]) => laws_toIntS.f k x) laws_toIntS.chk (fun k => EntsOk.mk True.intro True.intro) k
noncomputable def laws_toIntSS.l0 : Nat → List (List (Int)) → List (List (Int)) → Int → Option ((List (List (Int))))
  | 0, _, _, _ => none
  | k + 1, x0, x3, x4 => if x4 < (x0.length : Int) then (if 0 ≤ x4 then ((laws_toIntS.f k (rd_Ls_i64 x0 x4)).bind fun t1 => (if x4 < (x3.length : Int) then (laws_toIntSS.l0 k x0 (x3.set (x4 : Int).toNat t1) (wrap64 (x4 + 1))) else none)) else none) else (some x3)
noncomputable def laws_toIntSS.f (k : Nat) (l0 : List (List (Int))) : Option ((List (List (Int)))) := if 0 ≤ (l0.length : Int) then (if (l0.length : Int) ≤ 1599289640401 then (laws_toIntSS.l0 k l0 (List.replicate ((l0.length : Int) : Int).toNat ([] : List (Int))) 0) else none) else none
noncomputable def laws_toIntSS.l0.c : Cut := ⟨[0], [], [(0, .one), (3, .own 7), (4, .one)], [], [(7, .lst (.int .i64))], [.lst (.lst (.int .i64)), .int .i64, .lst (.lst (.int .i64))]⟩
@[reducible] noncomputable def laws_toIntSS.us : List (CutU TT (TupT ST [.lst (.lst (.int .i64))])) := [⟨3, laws_toIntSS.l0.c, fun k x => laws_toIntSS.l0 k x.1 x.2.2 x.2.1⟩]
noncomputable def laws_toIntSS.ent (k : Nat) : Ent TT := ⟨98, [.one], [.lst (.lst (.int .i64))], .one, [.lst (.lst (.int .i64))], fun x => laws_toIntSS.f k x⟩
noncomputable def laws_toIntSS.ents (k : Nat) : Ents TT := ⟨[laws_toIntS.ent k], []⟩
noncomputable def laws_toIntSS.l0.raw (k : Nat) (x0 : List (List (Int))) (x3 : List (List (Int))) (x4 : Int) : Option ((List (List (Int)))) := if x4 < (x0.length : Int) then (if 0 ≤ x4 then (if x4 < (x0.length : Int) then ((laws_toIntS.f k (rd_Ls_i64 x0 x4)).bind fun t1 => (if 0 ≤ x4 then (if x4 < (x3.length : Int) then (laws_toIntSS.l0 k x0 (x3.set (x4 : Int).toNat t1) (wr .i64 (x4 + 1))) else none) else none)) else none) else none) else (some x3)
theorem laws_toIntSS.l0.clean (k : Nat) (x0 : List (List (Int))) (x3 : List (List (Int))) (x4 : Int) : laws_toIntSS.l0.raw k x0 x3 x4 = laws_toIntSS.l0 (k + 1) x0 x3 x4 := by
  rw [laws_toIntSS.l0.raw, laws_toIntSS.l0]
  simp only [wr_i64]
  exact ite_congr rfl (fun h0 => ite_congr rfl (fun h1 => Eq.trans (if_pos h0) (bind_cg fun t1 => (if_pos h1))) (fun h1 => rfl)) (fun h0 => rfl)
theorem laws_toIntSS.l0.chk (k : Nat) (x : TupT ST [.lst (.lst (.int .i64)), .int .i64, .lst (.lst (.int .i64))]) : runU TT (calOf (laws_toIntSS.ents k)) (jmps laws_toIntSS.us k) (finK Tryz.f98 (retK TT (.one) [.lst (.lst (.int .i64))])) Tryz.f98 (some 3) (canonC laws_toIntSS.l0.c x) = laws_toIntSS.l0 (k + 1) x.1 x.2.2 x.2.1 := Eq.trans (show _ = laws_toIntSS.l0.raw k x.1 x.2.2 x.2.1 by kernel_rfl) (laws_toIntSS.l0.clean k x.1 x.2.2 x.2.1)
noncomputable def laws_toIntSS.raw (k : Nat) (l0 : List (List (Int))) : Option ((List (List (Int)))) := if 0 ≤ (l0.length : Int) then (if (l0.length : Int) ≤ (l0.length : Int) then (if (l0.length : Int) ≤ 1599289640401 then (laws_toIntSS.l0 k l0 (List.replicate ((l0.length : Int) : Int).toNat ([] : List (Int))) 0) else none) else none) else none
theorem laws_toIntSS.clean (k : Nat) (l0 : List (List (Int))) : laws_toIntSS.raw k l0 = laws_toIntSS.f k l0 := by
  rw [laws_toIntSS.raw, laws_toIntSS.f]
  exact ite_congr rfl (fun h0 => if_pos (Int.le_refl _)) (fun h0 => rfl)
theorem laws_toIntSS.chk (k : Nat) (x : TupT ST [.lst (.lst (.int .i64))]) : runU TT (calOf (laws_toIntSS.ents k)) (jmps laws_toIntSS.us k) (finK Tryz.f98 (retK TT (.one) [.lst (.lst (.int .i64))])) Tryz.f98 none (canon (args0 0 (argL [.one] [.lst (.lst (.int .i64))] x)) []) = laws_toIntSS.f k x := Eq.trans (show _ = laws_toIntSS.raw k x by kernel_rfl) (laws_toIntSS.clean k x)
theorem laws_toIntSS.ok (k : Nat) : EntOk Tryz.prog TT (laws_toIntSS.ent k) :=
  fun_of tbl mixed 98 Tryz.f98 Tryz.func98 rfl (by kernel_rfl) [.one] [.lst (.lst (.int .i64))] (.one) [.lst (.lst (.int .i64))] (by kernel_rfl) laws_toIntSS.ents laws_toIntSS.us (And.intro (fun _ => rfl) True.intro) (And.intro laws_toIntSS.l0.chk True.intro) (fun k (x : TupT ST [.lst (.lst (.int .i64))]) => laws_toIntSS.f k x) laws_toIntSS.chk (fun k => EntsOk.mk (And.intro (laws_toIntS.ok k) True.intro) True.intro) k
noncomputable def laws_toWorld.f (k : Nat) (a0_0 : Int) (l0_1 : List (List (Int))) : Option (Int × (List (List (Int)))) := (laws_toIntSS.f k l0_1).bind fun t1 => (some (a0_0, t1))
@[reducible] noncomputable def laws_toWorld.us : List (CutU TT (TupT ST [.int .i64, .lst (.lst (.int .i64))])) := []
noncomputable def laws_toWorld.ent (k : Nat) : Ent TT := ⟨28, [.agg 2], [.int .i64, .lst (.lst (.int .i64))], .agg 2, [.int .i64, .lst (.lst (.int .i64))], fun x => laws_toWorld.f k x.1 x.2⟩
noncomputable def laws_toWorld.ents (k : Nat) : Ents TT := ⟨[laws_toIntSS.ent k], []⟩
theorem laws_toWorld.chk (k : Nat) (x : TupT ST [.int .i64, .lst (.lst (.int .i64))]) : runU TT (calOf (laws_toWorld.ents k)) (jmps laws_toWorld.us k) (finK Tryz.f28 (retK TT (.agg 2) [.int .i64, .lst (.lst (.int .i64))])) Tryz.f28 none (canon (args0 0 (argL [.agg 2] [.int .i64, .lst (.lst (.int .i64))] x)) []) = laws_toWorld.f k x.1 x.2 := by kernel_rfl
theorem laws_toWorld.ok (k : Nat) : EntOk Tryz.prog TT (laws_toWorld.ent k) :=
  fun_of tbl mixed 28 Tryz.f28 Tryz.func28 rfl (by kernel_rfl) [.agg 2] [.int .i64, .lst (.lst (.int .i64))] (.agg 2) [.int .i64, .lst (.lst (.int .i64))] (by kernel_rfl) laws_toWorld.ents laws_toWorld.us True.intro True.intro (fun k (x : TupT ST [.int .i64, .lst (.lst (.int .i64))]) => laws_toWorld.f k x.1 x.2) laws_toWorld.chk (fun k => EntsOk.mk (And.intro (laws_toIntSS.ok k) True.intro) True.intro) k
noncomputable def impl_from.f (a0 : Int) (a1 : Int) (a2 : Int) : Option (Bool) := if a0 ≥ a1 then (some (decide (a0 ≤ a2))) else (some false)
@[reducible] noncomputable def impl_from.us : List (CutU TT (TupT ST [.bool])) := []
noncomputable def impl_from.ent : Ent TT := ⟨132, [.one, .one, .one], [.int .i64, .int .i64, .int .i64], .one, [.bool], fun x => impl_from.f x.1 x.2.1 x.2.2⟩
noncomputable def impl_from.ents (k : Nat) : Ents TT := ⟨[], []⟩
theorem impl_from.chk (k : Nat) (x : TupT ST [.int .i64, .int .i64, .int .i64]) : runU TT (calOf (impl_from.ents k)) (jmps impl_from.us k) (finK Tryz.f132 (retK TT (.one) [.bool])) Tryz.f132 none (canon (args0 0 (argL [.one, .one, .one] [.int .i64, .int .i64, .int .i64] x)) []) = impl_from.f x.1 x.2.1 x.2.2 := by kernel_rfl
theorem impl_from.ok : EntOk Tryz.prog TT (impl_from.ent) :=
  fun_of tbl mixed 132 Tryz.f132 Tryz.func132 rfl (by kernel_rfl) [.one, .one, .one] [.int .i64, .int .i64, .int .i64] (.one) [.bool] (by kernel_rfl) impl_from.ents impl_from.us True.intro True.intro (fun k (x : TupT ST [.int .i64, .int .i64, .int .i64]) => impl_from.f x.1 x.2.1 x.2.2) impl_from.chk (fun k => EntsOk.mk True.intro True.intro) 0
noncomputable def impl_isSmall.f (a0 : Int) : Option (Bool) := if a0 ≥ 97 then (some (decide (a0 ≤ 122))) else (some false)
@[reducible] noncomputable def impl_isSmall.us : List (CutU TT (TupT ST [.bool])) := []
noncomputable def impl_isSmall.ent : Ent TT := ⟨284, [.one], [.int .u8], .one, [.bool], fun x => impl_isSmall.f x⟩
noncomputable def impl_isSmall.ents (k : Nat) : Ents TT := ⟨[], []⟩
theorem impl_isSmall.chk (k : Nat) (x : TupT ST [.int .u8]) : runU TT (calOf (impl_isSmall.ents k)) (jmps impl_isSmall.us k) (finK Tryz.f284 (retK TT (.one) [.bool])) Tryz.f284 none (canon (args0 0 (argL [.one] [.int .u8] x)) []) = impl_isSmall.f x := by kernel_rfl
theorem impl_isSmall.ok : EntOk Tryz.prog TT (impl_isSmall.ent) :=
  fun_of tbl mixed 284 Tryz.f284 Tryz.func284 rfl (by kernel_rfl) [.one] [.int .u8] (.one) [.bool] (by kernel_rfl) impl_isSmall.ents impl_isSmall.us True.intro True.intro (fun k (x : TupT ST [.int .u8]) => impl_isSmall.f x) impl_isSmall.chk (fun k => EntsOk.mk True.intro True.intro) 0
noncomputable def impl_isDigit.f (a0 : Int) : Option (Bool) := if a0 ≥ 48 then (some (decide (a0 ≤ 57))) else (some false)
@[reducible] noncomputable def impl_isDigit.us : List (CutU TT (TupT ST [.bool])) := []
noncomputable def impl_isDigit.ent : Ent TT := ⟨285, [.one], [.int .u8], .one, [.bool], fun x => impl_isDigit.f x⟩
noncomputable def impl_isDigit.ents (k : Nat) : Ents TT := ⟨[], []⟩
theorem impl_isDigit.chk (k : Nat) (x : TupT ST [.int .u8]) : runU TT (calOf (impl_isDigit.ents k)) (jmps impl_isDigit.us k) (finK Tryz.f285 (retK TT (.one) [.bool])) Tryz.f285 none (canon (args0 0 (argL [.one] [.int .u8] x)) []) = impl_isDigit.f x := by kernel_rfl
theorem impl_isDigit.ok : EntOk Tryz.prog TT (impl_isDigit.ent) :=
  fun_of tbl mixed 285 Tryz.f285 Tryz.func285 rfl (by kernel_rfl) [.one] [.int .u8] (.one) [.bool] (by kernel_rfl) impl_isDigit.ents impl_isDigit.us True.intro True.intro (fun k (x : TupT ST [.int .u8]) => impl_isDigit.f x) impl_isDigit.chk (fun k => EntsOk.mk True.intro True.intro) 0
noncomputable def impl_NameOk.l0 : Nat → ByteArray → Int → Int → Option (Bool)
  | 0, _, _, _ => none
  | k + 1, x0, x5, x6 => if x6 < x5 then (if 0 ≤ x6 then (if x6 < (x0.size : Int) then ((impl_isSmall.f (bt x0 x6)).bind fun t1 => (if t1 = true then (impl_NameOk.l0 k x0 x5 (wrap64 (x6 + 1))) else ((impl_isDigit.f (bt x0 x6)).bind fun t2 => (if t2 = true then (impl_NameOk.l0 k x0 x5 (wrap64 (x6 + 1))) else (some false))))) else none) else none) else ((impl_from.f (x0.size : Int) 1 8).bind fun t3 => (if t3 = true then (if 0 < (x0.size : Int) then ((impl_isSmall.f (bt x0 0)).bind fun t4 => (some t4)) else none) else (some false)))
noncomputable def impl_NameOk.f (k : Nat) (a0 : ByteArray) : Option (Bool) := impl_NameOk.l0 k a0 (a0.size : Int) 0
noncomputable def impl_NameOk.l0.c : Cut := ⟨[], [], [(0, .one), (5, .one), (6, .one)], [], [], [.str, .int .i64, .int .i64]⟩
@[reducible] noncomputable def impl_NameOk.us : List (CutU TT (TupT ST [.bool])) := [⟨2, impl_NameOk.l0.c, fun k x => impl_NameOk.l0 k x.1 x.2.1 x.2.2⟩]
noncomputable def impl_NameOk.ent (k : Nat) : Ent TT := ⟨245, [.one], [.str], .one, [.bool], fun x => impl_NameOk.f k x⟩
noncomputable def impl_NameOk.ents (k : Nat) : Ents TT := ⟨[impl_isSmall.ent, impl_isDigit.ent, impl_from.ent], []⟩
noncomputable def impl_NameOk.l0.raw (k : Nat) (x0 : ByteArray) (x5 : Int) (x6 : Int) : Option (Bool) := if x6 < x5 then (if 0 ≤ x6 then (if x6 < (x0.size : Int) then ((impl_isSmall.f (bt x0 x6)).bind fun t1 => (if (!t1) = true then (if 0 ≤ x6 then (if x6 < (x0.size : Int) then ((impl_isDigit.f (bt x0 x6)).bind fun t2 => (if (!t2) = true then (some false) else (impl_NameOk.l0 k x0 x5 (wr .i64 (x6 + 1))))) else none) else none) else (impl_NameOk.l0 k x0 x5 (wr .i64 (x6 + 1))))) else none) else none) else ((impl_from.f (x0.size : Int) 1 8).bind fun t3 => (if t3 = true then (if (0 : Int) ≤ 0 then (if 0 < (x0.size : Int) then ((impl_isSmall.f (bt x0 0)).bind fun t4 => (some t4)) else none) else none) else (some false)))
theorem impl_NameOk.l0.clean (k : Nat) (x0 : ByteArray) (x5 : Int) (x6 : Int) : impl_NameOk.l0.raw k x0 x5 x6 = impl_NameOk.l0 (k + 1) x0 x5 x6 := by
  rw [impl_NameOk.l0.raw, impl_NameOk.l0]
  simp only [wr_i64]
  exact ite_congr rfl (fun h0 => ite_congr rfl (fun h1 => ite_congr rfl (fun h2 => bind_cg fun t1 => (Eq.trans (ite_nb _ _ _) (ite_congr rfl (fun h3 => rfl) (fun h3 => Eq.trans (if_pos h1) (Eq.trans (if_pos h2) (bind_cg fun t2 => (ite_nb _ _ _))))))) (fun h2 => rfl)) (fun h1 => rfl)) (fun h0 => bind_cg fun t3 => (ite_congr rfl (fun h1 => if_pos (by decide)) (fun h1 => rfl)))
theorem impl_NameOk.l0.chk (k : Nat) (x : TupT ST [.str, .int .i64, .int .i64]) : runU TT (calOf (impl_NameOk.ents k)) (jmps impl_NameOk.us k) (finK Tryz.f245 (retK TT (.one) [.bool])) Tryz.f245 (some 2) (canonC impl_NameOk.l0.c x) = impl_NameOk.l0 (k + 1) x.1 x.2.1 x.2.2 := Eq.trans (show _ = impl_NameOk.l0.raw k x.1 x.2.1 x.2.2 by kernel_rfl) (impl_NameOk.l0.clean k x.1 x.2.1 x.2.2)
theorem impl_NameOk.chk (k : Nat) (x : TupT ST [.str]) : runU TT (calOf (impl_NameOk.ents k)) (jmps impl_NameOk.us k) (finK Tryz.f245 (retK TT (.one) [.bool])) Tryz.f245 none (canon (args0 0 (argL [.one] [.str] x)) []) = impl_NameOk.f k x := by kernel_rfl
theorem impl_NameOk.ok (k : Nat) : EntOk Tryz.prog TT (impl_NameOk.ent k) :=
  fun_of tbl mixed 245 Tryz.f245 Tryz.func245 rfl (by kernel_rfl) [.one] [.str] (.one) [.bool] (by kernel_rfl) impl_NameOk.ents impl_NameOk.us (And.intro (fun _ => rfl) True.intro) (And.intro impl_NameOk.l0.chk True.intro) (fun k (x : TupT ST [.str]) => impl_NameOk.f k x) impl_NameOk.chk (fun k => EntsOk.mk (And.intro impl_isSmall.ok (And.intro impl_isDigit.ok (And.intro impl_from.ok True.intro))) True.intro) k
noncomputable def impl_SymOf_1_v2.f (a0_0 : ByteArray) (a0_1 : Int) (a0_2 : Bool) (c0_0 : ByteArray) : Option (Bool × ByteArray) := some (decide (a0_0 = c0_0), c0_0)
noncomputable def impl_SymOf_1_v2.pin : Cut := ⟨[], [], [(0, .agg [.one, .one, .one]), (1, .ptr 1073741824 0)], [(1073741824, [.one])], [], [.str, .int .i64, .bool, .str]⟩
noncomputable def impl_SymOf_1_v2.pout : Cut := ⟨[], [], [(3, .one)], [(1073741824, [.one])], [], [.bool, .str]⟩
@[reducible] noncomputable def impl_SymOf_1_v2.us : List (CutU TT (TupT ST impl_SymOf_1_v2.pout.es)) := []
noncomputable def impl_SymOf_1_v2.ent : Ent2 TT := ⟨287, 2, impl_SymOf_1_v2.pin, impl_SymOf_1_v2.pout, Tryz.f287.results.toList, fun x => impl_SymOf_1_v2.f x.1 x.2.1 x.2.2.1 x.2.2.2⟩
noncomputable def impl_SymOf_1_v2.ents (k : Nat) : Ents TT := ⟨[], []⟩
theorem impl_SymOf_1_v2.chk (k : Nat) (x : TupT ST impl_SymOf_1_v2.pin.es) : runU TT (calOf (impl_SymOf_1_v2.ents k)) (jmps impl_SymOf_1_v2.us k) (finC impl_SymOf_1_v2.pout Tryz.f287.results.toList) Tryz.f287 none (canonC impl_SymOf_1_v2.pin x) = impl_SymOf_1_v2.f x.1 x.2.1 x.2.2.1 x.2.2.2 := by kernel_rfl
theorem impl_SymOf_1_v2.ok : Ent2Ok Tryz.prog TT (impl_SymOf_1_v2.ent) :=
  fun_of2 tbl mixed 287 Tryz.f287 Tryz.func287 rfl (by kernel_rfl) 2 impl_SymOf_1_v2.pin impl_SymOf_1_v2.pout (by kernel_rfl) impl_SymOf_1_v2.ents impl_SymOf_1_v2.us True.intro True.intro (fun k (x : TupT ST impl_SymOf_1_v2.pin.es) => impl_SymOf_1_v2.f x.1 x.2.1 x.2.2.1 x.2.2.2) impl_SymOf_1_v2.chk (fun k => EntsOk.mk True.intro True.intro) 0
noncomputable def slices_IndexFunc_impl_Sym_impl_Sym__impl_SymOf_1.l0 : Nat → List (I_Sym) → Int → Int → ByteArray → Option (Int × ByteArray)
  | 0, _, _, _, _ => none
  | k + 1, x0, x7, x8, b1073741824_0 => if x8 < x7 then (if 0 ≤ x8 then (if x8 < (x0.length : Int) then ((impl_SymOf_1_v2.f ((rd_I_Sym x0 x8).f0) ((rd_I_Sym x0 x8).f1) ((rd_I_Sym x0 x8).f2) b1073741824_0).bind fun t1 => (if t1.1 = true then (some (x8, t1.2)) else (slices_IndexFunc_impl_Sym_impl_Sym__impl_SymOf_1.l0 k x0 x7 (wrap64 (x8 + 1)) t1.2))) else none) else none) else (some ((-1), b1073741824_0))
noncomputable def slices_IndexFunc_impl_Sym_impl_Sym__impl_SymOf_1.f (k : Nat) (l0 : List (I_Sym)) (c0_0 : ByteArray) : Option (Int × ByteArray) := slices_IndexFunc_impl_Sym_impl_Sym__impl_SymOf_1.l0 k l0 (l0.length : Int) 0 c0_0
noncomputable def slices_IndexFunc_impl_Sym_impl_Sym__impl_SymOf_1.pin : Cut := ⟨[0], [], [(0, .one), (1, .clo 287 [.ptr 1073741824 0])], [(1073741824, [.one])], [], [.lst (.st 4), .str]⟩
noncomputable def slices_IndexFunc_impl_Sym_impl_Sym__impl_SymOf_1.pout : Cut := ⟨[], [], [(4, .one)], [(1073741824, [.one])], [], [.int .i64, .str]⟩
noncomputable def slices_IndexFunc_impl_Sym_impl_Sym__impl_SymOf_1.l0.c : Cut := ⟨[0], [], [(0, .one), (1, .clo 287 [.ptr 1073741824 0]), (7, .one), (8, .one)], [(1073741824, [.one])], [], [.lst (.st 4), .int .i64, .int .i64, .str]⟩
@[reducible] noncomputable def slices_IndexFunc_impl_Sym_impl_Sym__impl_SymOf_1.us : List (CutU TT (TupT ST slices_IndexFunc_impl_Sym_impl_Sym__impl_SymOf_1.pout.es)) := [⟨2, slices_IndexFunc_impl_Sym_impl_Sym__impl_SymOf_1.l0.c, fun k x => slices_IndexFunc_impl_Sym_impl_Sym__impl_SymOf_1.l0 k x.1 x.2.1 x.2.2.1 x.2.2.2⟩]
noncomputable def slices_IndexFunc_impl_Sym_impl_Sym__impl_SymOf_1.ent (k : Nat) : Ent2 TT := ⟨286, 2, slices_IndexFunc_impl_Sym_impl_Sym__impl_SymOf_1.pin, slices_IndexFunc_impl_Sym_impl_Sym__impl_SymOf_1.pout, Tryz.f286.results.toList, fun x => slices_IndexFunc_impl_Sym_impl_Sym__impl_SymOf_1.f k x.1 x.2⟩
noncomputable def slices_IndexFunc_impl_Sym_impl_Sym__impl_SymOf_1.ents (k : Nat) : Ents TT := ⟨[], [impl_SymOf_1_v2.ent]⟩
noncomputable def slices_IndexFunc_impl_Sym_impl_Sym__impl_SymOf_1.l0.raw (k : Nat) (x0 : List (I_Sym)) (x7 : Int) (x8 : Int) (b1073741824_0 : ByteArray) : Option (Int × ByteArray) := if x8 < x7 then (if 0 ≤ x8 then (if x8 < (x0.length : Int) then ((impl_SymOf_1_v2.f ((rd_I_Sym x0 x8).f0) ((rd_I_Sym x0 x8).f1) ((rd_I_Sym x0 x8).f2) b1073741824_0).bind fun t1 => (if t1.1 = true then (some (x8, t1.2)) else (slices_IndexFunc_impl_Sym_impl_Sym__impl_SymOf_1.l0 k x0 x7 (wr .i64 (x8 + 1)) t1.2))) else none) else none) else (some ((-1), b1073741824_0))
theorem slices_IndexFunc_impl_Sym_impl_Sym__impl_SymOf_1.l0.clean (k : Nat) (x0 : List (I_Sym)) (x7 : Int) (x8 : Int) (b1073741824_0 : ByteArray) : slices_IndexFunc_impl_Sym_impl_Sym__impl_SymOf_1.l0.raw k x0 x7 x8 b1073741824_0 = slices_IndexFunc_impl_Sym_impl_Sym__impl_SymOf_1.l0 (k + 1) x0 x7 x8 b1073741824_0 := by
  rw [slices_IndexFunc_impl_Sym_impl_Sym__impl_SymOf_1.l0.raw, slices_IndexFunc_impl_Sym_impl_Sym__impl_SymOf_1.l0]
  simp only [wr_i64]
theorem slices_IndexFunc_impl_Sym_impl_Sym__impl_SymOf_1.l0.chk (k : Nat) (x : TupT ST [.lst (.st 4), .int .i64, .int .i64, .str]) : runU TT (calOf (slices_IndexFunc_impl_Sym_impl_Sym__impl_SymOf_1.ents k)) (jmps slices_IndexFunc_impl_Sym_impl_Sym__impl_SymOf_1.us k) (finC slices_IndexFunc_impl_Sym_impl_Sym__impl_SymOf_1.pout Tryz.f286.results.toList) Tryz.f286 (some 2) (canonC slices_IndexFunc_impl_Sym_impl_Sym__impl_SymOf_1.l0.c x) = slices_IndexFunc_impl_Sym_impl_Sym__impl_SymOf_1.l0 (k + 1) x.1 x.2.1 x.2.2.1 x.2.2.2 := Eq.trans (show _ = slices_IndexFunc_impl_Sym_impl_Sym__impl_SymOf_1.l0.raw k x.1 x.2.1 x.2.2.1 x.2.2.2 by kernel_rfl) (slices_IndexFunc_impl_Sym_impl_Sym__impl_SymOf_1.l0.clean k x.1 x.2.1 x.2.2.1 x.2.2.2)
theorem slices_IndexFunc_impl_Sym_impl_Sym__impl_SymOf_1.chk (k : Nat) (x : TupT ST slices_IndexFunc_impl_Sym_impl_Sym__impl_SymOf_1.pin.es) : runU TT (calOf (slices_IndexFunc_impl_Sym_impl_Sym__impl_SymOf_1.ents k)) (jmps slices_IndexFunc_impl_Sym_impl_Sym__impl_SymOf_1.us k) (finC slices_IndexFunc_impl_Sym_impl_Sym__impl_SymOf_1.pout Tryz.f286.results.toList) Tryz.f286 none (canonC slices_IndexFunc_impl_Sym_impl_Sym__impl_SymOf_1.pin x) = slices_IndexFunc_impl_Sym_impl_Sym__impl_SymOf_1.f k x.1 x.2 := by kernel_rfl
theorem slices_IndexFunc_impl_Sym_impl_Sym__impl_SymOf_1.ok (k : Nat) : Ent2Ok Tryz.prog TT (slices_IndexFunc_impl_Sym_impl_Sym__impl_SymOf_1.ent k) :=
  fun_of2 tbl mixed 286 Tryz.f286 Tryz.func286 rfl (by kernel_rfl) 2 slices_IndexFunc_impl_Sym_impl_Sym__impl_SymOf_1.pin slices_IndexFunc_impl_Sym_impl_Sym__impl_SymOf_1.pout (by kernel_rfl) slices_IndexFunc_impl_Sym_impl_Sym__impl_SymOf_1.ents slices_IndexFunc_impl_Sym_impl_Sym__impl_SymOf_1.us (And.intro (fun _ => rfl) True.intro) (And.intro slices_IndexFunc_impl_Sym_impl_Sym__impl_SymOf_1.l0.chk True.intro) (fun k (x : TupT ST slices_IndexFunc_impl_Sym_impl_Sym__impl_SymOf_1.pin.es) => slices_IndexFunc_impl_Sym_impl_Sym__impl_SymOf_1.f k x.1 x.2) slices_IndexFunc_impl_Sym_impl_Sym__impl_SymOf_1.chk (fun k => EntsOk.mk True.intro (And.intro impl_SymOf_1_v2.ok True.intro)) k
noncomputable def impl_SymOf.f (k : Nat) (l0 : List (I_Sym)) (a1 : ByteArray) : Option (Int) := (slices_IndexFunc_impl_Sym_impl_Sym__impl_SymOf_1.f k l0 a1).bind fun t1 => (some t1.1)
@[reducible] noncomputable def impl_SymOf.us : List (CutU TT (TupT ST [.int .i64])) := []
noncomputable def impl_SymOf.ent (k : Nat) : Ent TT := ⟨246, [.one, .one], [.lst (.st 4), .str], .one, [.int .i64], fun x => impl_SymOf.f k x.1 x.2⟩
noncomputable def impl_SymOf.ents (k : Nat) : Ents TT := ⟨[], [slices_IndexFunc_impl_Sym_impl_Sym__impl_SymOf_1.ent k]⟩
theorem impl_SymOf.chk (k : Nat) (x : TupT ST [.lst (.st 4), .str]) : runU TT (calOf (impl_SymOf.ents k)) (jmps impl_SymOf.us k) (finK Tryz.f246 (retK TT (.one) [.int .i64])) Tryz.f246 none (canon (args0 0 (argL [.one, .one] [.lst (.st 4), .str] x)) []) = impl_SymOf.f k x.1 x.2 := by kernel_rfl
theorem impl_SymOf.ok (k : Nat) : EntOk Tryz.prog TT (impl_SymOf.ent k) :=
  fun_of tbl mixed 246 Tryz.f246 Tryz.func246 rfl (by kernel_rfl) [.one, .one] [.lst (.st 4), .str] (.one) [.int .i64] (by kernel_rfl) impl_SymOf.ents impl_SymOf.us True.intro True.intro (fun k (x : TupT ST [.lst (.st 4), .str]) => impl_SymOf.f k x.1 x.2) impl_SymOf.chk (fun k => EntsOk.mk True.intro (And.intro (slices_IndexFunc_impl_Sym_impl_Sym__impl_SymOf_1.ok k) True.intro)) k
noncomputable def impl_SigOk.l0 : Nat → List (I_Sym) → List (I_Sym) → Int → Int → Option (Bool)
  | 0, _, _, _, _ => none
  | k + 1, x0, x5, x6, x7 => if x7 < x6 then (if 0 ≤ x7 then (if x7 < (x5.length : Int) then ((impl_NameOk.f k ((rd_I_Sym x5 x7).f0)).bind fun t1 => (if t1 = true then ((impl_SymOf.f k x0 ((rd_I_Sym x5 x7).f0)).bind fun t2 => (if t2 = x7 then ((impl_from.f ((rd_I_Sym x5 x7).f1) 0 3).bind fun t3 => (if t3 = true then (if ((rd_I_Sym x5 x7).f2) = true then (if ((rd_I_Sym x5 x7).f1) = 2 then (impl_SigOk.l0 k x0 x5 x6 (wrap64 (x7 + 1))) else (some false)) else (impl_SigOk.l0 k x0 x5 x6 (wrap64 (x7 + 1)))) else (some false))) else (some false))) else (some false))) else none) else none) else ((impl_from.f (x0.length : Int) 1 8).bind fun t4 => (if t4 = true then (if 0 < (x0.length : Int) then (if ((rd_I_Sym x0 0).f0) = (⟨#[116, 116]⟩ : ByteArray) then (some (decide (((rd_I_Sym x0 0).f1) = 0))) else (some false)) else none) else (some false)))
noncomputable def impl_SigOk.f (k : Nat) (l0 : List (I_Sym)) : Option (Bool) := impl_SigOk.l0 k l0 l0 (l0.length : Int) 0
noncomputable def impl_SigOk.l0.c : Cut := ⟨[0, 5], [], [(0, .one), (5, .one), (6, .one), (7, .one)], [], [], [.lst (.st 4), .lst (.st 4), .int .i64, .int .i64]⟩
@[reducible] noncomputable def impl_SigOk.us : List (CutU TT (TupT ST [.bool])) := [⟨2, impl_SigOk.l0.c, fun k x => impl_SigOk.l0 k x.1 x.2.1 x.2.2.1 x.2.2.2⟩]
noncomputable def impl_SigOk.ent (k : Nat) : Ent TT := ⟨131, [.one], [.lst (.st 4)], .one, [.bool], fun x => impl_SigOk.f k x⟩
noncomputable def impl_SigOk.ents (k : Nat) : Ents TT := ⟨[impl_NameOk.ent k, impl_SymOf.ent k, impl_from.ent], []⟩
noncomputable def impl_SigOk.l0.raw (k : Nat) (x0 : List (I_Sym)) (x5 : List (I_Sym)) (x6 : Int) (x7 : Int) : Option (Bool) := if x7 < x6 then (if 0 ≤ x7 then (if x7 < (x5.length : Int) then ((impl_NameOk.f k ((rd_I_Sym x5 x7).f0)).bind fun t1 => (if (!t1) = true then (some false) else ((impl_SymOf.f k x0 ((rd_I_Sym x5 x7).f0)).bind fun t2 => (if ¬ t2 = x7 then (some false) else ((impl_from.f ((rd_I_Sym x5 x7).f1) 0 3).bind fun t3 => (if (!t3) = true then (some false) else (if ((rd_I_Sym x5 x7).f2) = true then (if ¬ ((rd_I_Sym x5 x7).f1) = 2 then (some false) else (impl_SigOk.l0 k x0 x5 x6 (wr .i64 (x7 + 1)))) else (impl_SigOk.l0 k x0 x5 x6 (wr .i64 (x7 + 1)))))))))) else none) else none) else ((impl_from.f (x0.length : Int) 1 8).bind fun t4 => (if t4 = true then (if (0 : Int) ≤ 0 then (if 0 < (x0.length : Int) then (if ((rd_I_Sym x0 0).f0) = (⟨#[116, 116]⟩ : ByteArray) then (if (0 : Int) ≤ 0 then (if 0 < (x0.length : Int) then (some (decide (((rd_I_Sym x0 0).f1) = 0))) else none) else none) else (some false)) else none) else none) else (some false)))
theorem impl_SigOk.l0.clean (k : Nat) (x0 : List (I_Sym)) (x5 : List (I_Sym)) (x6 : Int) (x7 : Int) : impl_SigOk.l0.raw k x0 x5 x6 x7 = impl_SigOk.l0 (k + 1) x0 x5 x6 x7 := by
  rw [impl_SigOk.l0.raw, impl_SigOk.l0]
  simp only [wr_i64]
  exact ite_congr rfl (fun h0 => ite_congr rfl (fun h1 => ite_congr rfl (fun h2 => bind_cg fun t1 => (Eq.trans (ite_nb _ _ _) (ite_congr rfl (fun h3 => bind_cg fun t2 => (Eq.trans (ite_ng _ _) (ite_congr rfl (fun h4 => bind_cg fun t3 => (Eq.trans (ite_nb _ _ _) (ite_congr rfl (fun h5 => ite_congr rfl (fun h6 => ite_ng _ _) (fun h6 => rfl)) (fun h5 => rfl)))) (fun h4 => rfl)))) (fun h3 => rfl)))) (fun h2 => rfl)) (fun h1 => rfl)) (fun h0 => bind_cg fun t4 => (ite_congr rfl (fun h1 => Eq.trans (if_pos (by decide)) (ite_congr rfl (fun h2 => ite_congr rfl (fun h3 => Eq.trans (if_pos (by decide)) (if_pos h2)) (fun h3 => rfl)) (fun h2 => rfl))) (fun h1 => rfl)))
theorem impl_SigOk.l0.chk (k : Nat) (x : TupT ST [.lst (.st 4), .lst (.st 4), .int .i64, .int .i64]) : runU TT (calOf (impl_SigOk.ents k)) (jmps impl_SigOk.us k) (finK Tryz.f131 (retK TT (.one) [.bool])) Tryz.f131 (some 2) (canonC impl_SigOk.l0.c x) = impl_SigOk.l0 (k + 1) x.1 x.2.1 x.2.2.1 x.2.2.2 := Eq.trans (show _ = impl_SigOk.l0.raw k x.1 x.2.1 x.2.2.1 x.2.2.2 by kernel_rfl) (impl_SigOk.l0.clean k x.1 x.2.1 x.2.2.1 x.2.2.2)
theorem impl_SigOk.chk (k : Nat) (x : TupT ST [.lst (.st 4)]) : runU TT (calOf (impl_SigOk.ents k)) (jmps impl_SigOk.us k) (finK Tryz.f131 (retK TT (.one) [.bool])) Tryz.f131 none (canon (args0 0 (argL [.one] [.lst (.st 4)] x)) []) = impl_SigOk.f k x := by kernel_rfl
theorem impl_SigOk.ok (k : Nat) : EntOk Tryz.prog TT (impl_SigOk.ent k) :=
  fun_of tbl mixed 131 Tryz.f131 Tryz.func131 rfl (by kernel_rfl) [.one] [.lst (.st 4)] (.one) [.bool] (by kernel_rfl) impl_SigOk.ents impl_SigOk.us (And.intro (fun _ => rfl) True.intro) (And.intro impl_SigOk.l0.chk True.intro) (fun k (x : TupT ST [.lst (.st 4)]) => impl_SigOk.f k x) impl_SigOk.chk (fun k => EntsOk.mk (And.intro (impl_NameOk.ok k) (And.intro (impl_SymOf.ok k) (And.intro impl_from.ok True.intro))) True.intro) k
noncomputable def impl_Parts_1_v2.f (a0_0 : Int) (a0_1 : Int) (a0_2 : List (I_Term)) (c0_0 : Int) : Option (Int) := some (wrap64 (c0_0 + 1))
noncomputable def impl_Parts_1_v2.pin : Cut := ⟨[], [], [(0, .agg [.one, .one, .one]), (1, .ptr 1073741824 0)], [(1073741824, [.one])], [], [.int .i64, .int .i64, .lst (.st 5), .int .i64]⟩
noncomputable def impl_Parts_1_v2.pout : Cut := ⟨[], [], [], [(1073741824, [.one])], [], [.int .i64]⟩
@[reducible] noncomputable def impl_Parts_1_v2.us : List (CutU TT (TupT ST impl_Parts_1_v2.pout.es)) := []
noncomputable def impl_Parts_1_v2.ent : Ent2 TT := ⟨275, 2, impl_Parts_1_v2.pin, impl_Parts_1_v2.pout, Tryz.f275.results.toList, fun x => impl_Parts_1_v2.f x.1 x.2.1 x.2.2.1 x.2.2.2⟩
noncomputable def impl_Parts_1_v2.ents (k : Nat) : Ents TT := ⟨[], []⟩
noncomputable def impl_Parts_1_v2.raw (k : Nat) (a0_0 : Int) (a0_1 : Int) (a0_2 : List (I_Term)) (c0_0 : Int) : Option (Int) := some (wr .i64 (c0_0 + 1))
theorem impl_Parts_1_v2.clean (k : Nat) (a0_0 : Int) (a0_1 : Int) (a0_2 : List (I_Term)) (c0_0 : Int) : impl_Parts_1_v2.raw k a0_0 a0_1 a0_2 c0_0 = impl_Parts_1_v2.f a0_0 a0_1 a0_2 c0_0 := by
  rw [impl_Parts_1_v2.raw, impl_Parts_1_v2.f]
  simp only [wr_i64]
theorem impl_Parts_1_v2.chk (k : Nat) (x : TupT ST impl_Parts_1_v2.pin.es) : runU TT (calOf (impl_Parts_1_v2.ents k)) (jmps impl_Parts_1_v2.us k) (finC impl_Parts_1_v2.pout Tryz.f275.results.toList) Tryz.f275 none (canonC impl_Parts_1_v2.pin x) = impl_Parts_1_v2.f x.1 x.2.1 x.2.2.1 x.2.2.2 := Eq.trans (show _ = impl_Parts_1_v2.raw k x.1 x.2.1 x.2.2.1 x.2.2.2 by kernel_rfl) (impl_Parts_1_v2.clean k x.1 x.2.1 x.2.2.1 x.2.2.2)
theorem impl_Parts_1_v2.ok : Ent2Ok Tryz.prog TT (impl_Parts_1_v2.ent) :=
  fun_of2 tbl mixed 275 Tryz.f275 Tryz.func275 rfl (by kernel_rfl) 2 impl_Parts_1_v2.pin impl_Parts_1_v2.pout (by kernel_rfl) impl_Parts_1_v2.ents impl_Parts_1_v2.us True.intro True.intro (fun k (x : TupT ST impl_Parts_1_v2.pin.es) => impl_Parts_1_v2.f x.1 x.2.1 x.2.2.1 x.2.2.2) impl_Parts_1_v2.chk (fun k => EntsOk.mk True.intro True.intro) 0
mutual
noncomputable def impl_each__impl_Parts_1.l0 : Nat → List (I_Term) → Int → Int → Int → Option (Int)
  | 0, _, _, _, _ => none
  | k + 1, x10, x11, x12, b1073741824_0 => if x12 < x11 then (if 0 ≤ x12 then (if x12 < (x10.length : Int) then ((impl_each__impl_Parts_1.f k ((rd_I_Term x10 x12).f0) ((rd_I_Term x10 x12).f1) ((rd_I_Term x10 x12).f2) b1073741824_0).bind fun t2 => (impl_each__impl_Parts_1.l0 k x10 x11 (wrap64 (x12 + 1)) t2)) else none) else none) else (some b1073741824_0)
noncomputable def impl_each__impl_Parts_1.f : Nat → Int → Int → List (I_Term) → Int → Option (Int)
  | 0, _, _, _, _ => none
  | k + 1, a0_0, a0_1, a0_2, c0_0 => (impl_Parts_1_v2.f a0_0 a0_1 a0_2 c0_0).bind fun t1 => (impl_each__impl_Parts_1.l0 k a0_2 (a0_2.length : Int) 0 t1)
end
noncomputable def impl_each__impl_Parts_1.pin : Cut := ⟨[], [], [(0, .agg [.one, .one, .one]), (1, .clo 275 [.ptr 1073741824 0])], [(1073741824, [.one])], [], [.int .i64, .int .i64, .lst (.st 5), .int .i64]⟩
noncomputable def impl_each__impl_Parts_1.pout : Cut := ⟨[], [], [], [(1073741824, [.one])], [], [.int .i64]⟩
noncomputable def impl_each__impl_Parts_1.ent (k : Nat) : Ent2 TT := ⟨229, 2, impl_each__impl_Parts_1.pin, impl_each__impl_Parts_1.pout, Tryz.f229.results.toList, fun x => impl_each__impl_Parts_1.f k x.1 x.2.1 x.2.2.1 x.2.2.2⟩
noncomputable def impl_each__impl_Parts_1.l0.c : Cut := ⟨[10], [], [(1, .clo 275 [.ptr 1073741824 0]), (10, .one), (11, .one), (12, .one)], [(1073741824, [.one])], [], [.lst (.st 5), .int .i64, .int .i64, .int .i64]⟩
@[reducible] noncomputable def impl_each__impl_Parts_1.us : List (CutU TT (TupT ST impl_each__impl_Parts_1.pout.es)) := [⟨3, impl_each__impl_Parts_1.l0.c, fun k x => impl_each__impl_Parts_1.l0 k x.1 x.2.1 x.2.2.1 x.2.2.2⟩]
noncomputable def impl_each__impl_Parts_1.ents (k : Nat) : Ents TT := ⟨[], [impl_Parts_1_v2.ent, impl_each__impl_Parts_1.ent k]⟩
noncomputable def impl_each__impl_Parts_1.l0.raw (k : Nat) (x10 : List (I_Term)) (x11 : Int) (x12 : Int) (b1073741824_0 : Int) : Option (Int) := if x12 < x11 then (if 0 ≤ x12 then (if x12 < (x10.length : Int) then ((impl_each__impl_Parts_1.f k ((rd_I_Term x10 x12).f0) ((rd_I_Term x10 x12).f1) ((rd_I_Term x10 x12).f2) b1073741824_0).bind fun t2 => (impl_each__impl_Parts_1.l0 k x10 x11 (wr .i64 (x12 + 1)) t2)) else none) else none) else (some b1073741824_0)
theorem impl_each__impl_Parts_1.l0.clean (k : Nat) (x10 : List (I_Term)) (x11 : Int) (x12 : Int) (b1073741824_0 : Int) : impl_each__impl_Parts_1.l0.raw k x10 x11 x12 b1073741824_0 = impl_each__impl_Parts_1.l0 (k + 1) x10 x11 x12 b1073741824_0 := by
  rw [impl_each__impl_Parts_1.l0.raw, impl_each__impl_Parts_1.l0]
  simp only [wr_i64]
theorem impl_each__impl_Parts_1.l0.chk (k : Nat) (x : TupT ST [.lst (.st 5), .int .i64, .int .i64, .int .i64]) : runU TT (calOf (impl_each__impl_Parts_1.ents k)) (jmps impl_each__impl_Parts_1.us k) (finC impl_each__impl_Parts_1.pout Tryz.f229.results.toList) Tryz.f229 (some 3) (canonC impl_each__impl_Parts_1.l0.c x) = impl_each__impl_Parts_1.l0 (k + 1) x.1 x.2.1 x.2.2.1 x.2.2.2 := Eq.trans (show _ = impl_each__impl_Parts_1.l0.raw k x.1 x.2.1 x.2.2.1 x.2.2.2 by kernel_rfl) (impl_each__impl_Parts_1.l0.clean k x.1 x.2.1 x.2.2.1 x.2.2.2)
theorem impl_each__impl_Parts_1.chk (k : Nat) (x : TupT ST impl_each__impl_Parts_1.pin.es) : runU TT (calOf (impl_each__impl_Parts_1.ents k)) (jmps impl_each__impl_Parts_1.us k) (finC impl_each__impl_Parts_1.pout Tryz.f229.results.toList) Tryz.f229 none (canonC impl_each__impl_Parts_1.pin x) = impl_each__impl_Parts_1.f (k + 1) x.1 x.2.1 x.2.2.1 x.2.2.2 := by kernel_rfl
theorem impl_each__impl_Parts_1.grp : ∀ k : Nat, EachU (EntOk Tryz.prog TT) [] ∧ EachU (Ent2Ok Tryz.prog TT) [impl_each__impl_Parts_1.ent k] := by
  intro k
  induction k using Nat.strongRecOn with
  | ind k ih =>
    exact And.intro True.intro (And.intro (fun_in2 tbl mixed 229 Tryz.f229 Tryz.func229 rfl (by kernel_rfl) 2 impl_each__impl_Parts_1.pin impl_each__impl_Parts_1.pout (by kernel_rfl) impl_each__impl_Parts_1.ents impl_each__impl_Parts_1.us (And.intro (fun _ => rfl) True.intro) (And.intro impl_each__impl_Parts_1.l0.chk True.intro) (fun k (x : TupT ST impl_each__impl_Parts_1.pin.es) => impl_each__impl_Parts_1.f k x.1 x.2.1 x.2.2.1 x.2.2.2) (fun _ => rfl) impl_each__impl_Parts_1.chk k (fun j h => EntsOk.mk True.intro (And.intro impl_Parts_1_v2.ok (And.intro (ih j h).2.1 True.intro)))) True.intro)
theorem impl_each__impl_Parts_1.ok (k : Nat) : Ent2Ok Tryz.prog TT (impl_each__impl_Parts_1.ent k) := (impl_each__impl_Parts_1.grp k).2.1
noncomputable def impl_Parts.f (k : Nat) (a0_0 : Int) (a0_1 : Int) (l0_2 : List (I_Term)) : Option (Int) := (impl_each__impl_Parts_1.f k a0_0 a0_1 l0_2 0).bind fun t1 => (some t1)
@[reducible] noncomputable def impl_Parts.us : List (CutU TT (TupT ST [.int .i64])) := []
noncomputable def impl_Parts.ent (k : Nat) : Ent TT := ⟨212, [.agg 3], [.int .i64, .int .i64, .lst (.st 5)], .one, [.int .i64], fun x => impl_Parts.f k x.1 x.2.1 x.2.2⟩
noncomputable def impl_Parts.ents (k : Nat) : Ents TT := ⟨[], [impl_each__impl_Parts_1.ent k]⟩
theorem impl_Parts.chk (k : Nat) (x : TupT ST [.int .i64, .int .i64, .lst (.st 5)]) : runU TT (calOf (impl_Parts.ents k)) (jmps impl_Parts.us k) (finK Tryz.f212 (retK TT (.one) [.int .i64])) Tryz.f212 none (canon (args0 0 (argL [.agg 3] [.int .i64, .int .i64, .lst (.st 5)] x)) []) = impl_Parts.f k x.1 x.2.1 x.2.2 := by kernel_rfl
theorem impl_Parts.ok (k : Nat) : EntOk Tryz.prog TT (impl_Parts.ent k) :=
  fun_of tbl mixed 212 Tryz.f212 Tryz.func212 rfl (by kernel_rfl) [.agg 3] [.int .i64, .int .i64, .lst (.st 5)] (.one) [.int .i64] (by kernel_rfl) impl_Parts.ents impl_Parts.us True.intro True.intro (fun k (x : TupT ST [.int .i64, .int .i64, .lst (.st 5)]) => impl_Parts.f k x.1 x.2.1 x.2.2) impl_Parts.chk (fun k => EntsOk.mk True.intro (And.intro (impl_each__impl_Parts_1.ok k) True.intro)) k
noncomputable def impl_isVar.f (a0_0 : Int) (a0_1 : Int) (l0_2 : List (I_Term)) : Option (Bool) := some (decide (a0_0 = (-1)))
@[reducible] noncomputable def impl_isVar.us : List (CutU TT (TupT ST [.bool])) := []
noncomputable def impl_isVar.ent : Ent TT := ⟨201, [.agg 3], [.int .i64, .int .i64, .lst (.st 5)], .one, [.bool], fun x => impl_isVar.f x.1 x.2.1 x.2.2⟩
noncomputable def impl_isVar.ents (k : Nat) : Ents TT := ⟨[], []⟩
theorem impl_isVar.chk (k : Nat) (x : TupT ST [.int .i64, .int .i64, .lst (.st 5)]) : runU TT (calOf (impl_isVar.ents k)) (jmps impl_isVar.us k) (finK Tryz.f201 (retK TT (.one) [.bool])) Tryz.f201 none (canon (args0 0 (argL [.agg 3] [.int .i64, .int .i64, .lst (.st 5)] x)) []) = impl_isVar.f x.1 x.2.1 x.2.2 := by kernel_rfl
theorem impl_isVar.ok : EntOk Tryz.prog TT (impl_isVar.ent) :=
  fun_of tbl mixed 201 Tryz.f201 Tryz.func201 rfl (by kernel_rfl) [.agg 3] [.int .i64, .int .i64, .lst (.st 5)] (.one) [.bool] (by kernel_rfl) impl_isVar.ents impl_isVar.us True.intro True.intro (fun k (x : TupT ST [.int .i64, .int .i64, .lst (.st 5)]) => impl_isVar.f x.1 x.2.1 x.2.2) impl_isVar.chk (fun k => EntsOk.mk True.intro True.intro) 0
mutual
noncomputable def impl_compare.l0 : Nat → List (A2_i64) → Int → Int → Int → Int → List (I_Term) → Int → Int → List (I_Term) → Option (Int)
  | 0, _, _, _, _, _, _, _, _, _ => none
  | k + 1, x26, x27, x28, b2_0, b2_1, b2_2, b3_0, b3_1, b3_2 => if x28 < x27 then (if 0 ≤ x28 then (if x28 < (x26.length : Int) then (if ((rd_A2_i64 x26 x28).f0) < ((rd_A2_i64 x26 x28).f1) then (some (-1)) else (if ((rd_A2_i64 x26 x28).f0) > ((rd_A2_i64 x26 x28).f1) then (some 1) else (impl_compare.l0 k x26 x27 (wrap64 (x28 + 1)) b2_0 b2_1 b2_2 b3_0 b3_1 b3_2))) else none) else none) else (impl_compare.l1 k (b2_2.length : Int) 0 b2_0 b2_1 b2_2 b3_0 b3_1 b3_2)
noncomputable def impl_compare.l1 : Nat → Int → Int → Int → Int → List (I_Term) → Int → Int → List (I_Term) → Option (Int)
  | 0, _, _, _, _, _, _, _, _ => none
  | k + 1, x47, x48, b2_0, b2_1, b2_2, b3_0, b3_1, b3_2 => if x48 < x47 then (if 0 ≤ x48 then (if x48 < (b2_2.length : Int) then (if x48 < (b3_2.length : Int) then ((impl_compare.f k ((rd_I_Term b2_2 x48).f0) ((rd_I_Term b2_2 x48).f1) ((rd_I_Term b2_2 x48).f2) ((rd_I_Term b3_2 x48).f0) ((rd_I_Term b3_2 x48).f1) ((rd_I_Term b3_2 x48).f2)).bind fun t1 => (if t1 = 0 then (impl_compare.l1 k x47 (wrap64 (x48 + 1)) b2_0 b2_1 b2_2 b3_0 b3_1 b3_2) else (some t1))) else none) else none) else none) else (some 0)
noncomputable def impl_compare.f : Nat → Int → Int → List (I_Term) → Int → Int → List (I_Term) → Option (Int)
  | 0, _, _, _, _, _, _ => none
  | k + 1, a0_0, a0_1, l0_2, a1_0, a1_1, l1_2 => impl_compare.l0 k ([⟨a0_0, a1_0⟩, ⟨a0_1, a1_1⟩, ⟨(l0_2.length : Int), (l1_2.length : Int)⟩] : List (A2_i64)) (([⟨a0_0, a1_0⟩, ⟨a0_1, a1_1⟩, ⟨(l0_2.length : Int), (l1_2.length : Int)⟩] : List (A2_i64)).length : Int) 0 a0_0 a0_1 l0_2 a1_0 a1_1 l1_2
end
noncomputable def impl_compare.ent (k : Nat) : Ent TT := ⟨200, [.agg 3, .agg 3], [.int .i64, .int .i64, .lst (.st 5), .int .i64, .int .i64, .lst (.st 5)], .one, [.int .i64], fun x => impl_compare.f k x.1 x.2.1 x.2.2.1 x.2.2.2.1 x.2.2.2.2.1 x.2.2.2.2.2⟩
noncomputable def impl_compare.l0.c : Cut := ⟨[], [(2, 2), (3, 2)], [(2, .ptr 2 0), (3, .ptr 3 0), (26, .own 26), (27, .one), (28, .one)], [(2, [.one, .one, .one]), (3, [.one, .one, .one])], [(26, .st 10)], [.int .i64, .int .i64, .int .i64, .int .i64, .lst (.st 5), .int .i64, .int .i64, .lst (.st 5), .lst (.st 10)]⟩
noncomputable def impl_compare.l1.c : Cut := ⟨[], [(2, 2), (3, 2)], [(2, .ptr 2 0), (3, .ptr 3 0), (47, .one), (48, .one)], [(2, [.one, .one, .one]), (3, [.one, .one, .one])], [], [.int .i64, .int .i64, .int .i64, .int .i64, .lst (.st 5), .int .i64, .int .i64, .lst (.st 5)]⟩
@[reducible] noncomputable def impl_compare.us : List (CutU TT (TupT ST [.int .i64])) := [⟨2, impl_compare.l0.c, fun k x => impl_compare.l0 k x.2.2.2.2.2.2.2.2 x.1 x.2.1 x.2.2.1 x.2.2.2.1 x.2.2.2.2.1 x.2.2.2.2.2.1 x.2.2.2.2.2.2.1 x.2.2.2.2.2.2.2.1⟩, ⟨10, impl_compare.l1.c, fun k x => impl_compare.l1 k x.1 x.2.1 x.2.2.1 x.2.2.2.1 x.2.2.2.2.1 x.2.2.2.2.2.1 x.2.2.2.2.2.2.1 x.2.2.2.2.2.2.2⟩]
noncomputable def impl_compare.ents (k : Nat) : Ents TT := ⟨[impl_compare.ent k], []⟩
noncomputable def impl_compare.l0.raw (k : Nat) (x26 : List (A2_i64)) (x27 : Int) (x28 : Int) (b2_0 : Int) (b2_1 : Int) (b2_2 : List (I_Term)) (b3_0 : Int) (b3_1 : Int) (b3_2 : List (I_Term)) : Option (Int) := if x28 < x27 then (if 0 ≤ x28 then (if x28 < (x26.length : Int) then (if ((rd_A2_i64 x26 x28).f0) < ((rd_A2_i64 x26 x28).f1) then (some (-1)) else (if ((rd_A2_i64 x26 x28).f0) > ((rd_A2_i64 x26 x28).f1) then (some 1) else (impl_compare.l0 k x26 x27 (wr .i64 (x28 + 1)) b2_0 b2_1 b2_2 b3_0 b3_1 b3_2))) else none) else none) else (impl_compare.l1 k (b2_2.length : Int) 0 b2_0 b2_1 b2_2 b3_0 b3_1 b3_2)
theorem impl_compare.l0.clean (k : Nat) (x26 : List (A2_i64)) (x27 : Int) (x28 : Int) (b2_0 : Int) (b2_1 : Int) (b2_2 : List (I_Term)) (b3_0 : Int) (b3_1 : Int) (b3_2 : List (I_Term)) : impl_compare.l0.raw k x26 x27 x28 b2_0 b2_1 b2_2 b3_0 b3_1 b3_2 = impl_compare.l0 (k + 1) x26 x27 x28 b2_0 b2_1 b2_2 b3_0 b3_1 b3_2 := by
  rw [impl_compare.l0.raw, impl_compare.l0]
  simp only [wr_i64]
theorem impl_compare.l0.chk (k : Nat) (x : TupT ST [.int .i64, .int .i64, .int .i64, .int .i64, .lst (.st 5), .int .i64, .int .i64, .lst (.st 5), .lst (.st 10)]) : runU TT (calOf (impl_compare.ents k)) (jmps impl_compare.us k) (finK Tryz.f200 (retK TT (.one) [.int .i64])) Tryz.f200 (some 2) (canonC impl_compare.l0.c x) = impl_compare.l0 (k + 1) x.2.2.2.2.2.2.2.2 x.1 x.2.1 x.2.2.1 x.2.2.2.1 x.2.2.2.2.1 x.2.2.2.2.2.1 x.2.2.2.2.2.2.1 x.2.2.2.2.2.2.2.1 := Eq.trans (show _ = impl_compare.l0.raw k x.2.2.2.2.2.2.2.2 x.1 x.2.1 x.2.2.1 x.2.2.2.1 x.2.2.2.2.1 x.2.2.2.2.2.1 x.2.2.2.2.2.2.1 x.2.2.2.2.2.2.2.1 by kernel_rfl) (impl_compare.l0.clean k x.2.2.2.2.2.2.2.2 x.1 x.2.1 x.2.2.1 x.2.2.2.1 x.2.2.2.2.1 x.2.2.2.2.2.1 x.2.2.2.2.2.2.1 x.2.2.2.2.2.2.2.1)
noncomputable def impl_compare.l1.raw (k : Nat) (x47 : Int) (x48 : Int) (b2_0 : Int) (b2_1 : Int) (b2_2 : List (I_Term)) (b3_0 : Int) (b3_1 : Int) (b3_2 : List (I_Term)) : Option (Int) := if x48 < x47 then (if 0 ≤ x48 then (if x48 < (b2_2.length : Int) then (if 0 ≤ x48 then (if x48 < (b3_2.length : Int) then ((impl_compare.f k ((rd_I_Term b2_2 x48).f0) ((rd_I_Term b2_2 x48).f1) ((rd_I_Term b2_2 x48).f2) ((rd_I_Term b3_2 x48).f0) ((rd_I_Term b3_2 x48).f1) ((rd_I_Term b3_2 x48).f2)).bind fun t1 => (if ¬ t1 = 0 then (some t1) else (impl_compare.l1 k x47 (wr .i64 (x48 + 1)) b2_0 b2_1 b2_2 b3_0 b3_1 b3_2))) else none) else none) else none) else none) else (some 0)
theorem impl_compare.l1.clean (k : Nat) (x47 : Int) (x48 : Int) (b2_0 : Int) (b2_1 : Int) (b2_2 : List (I_Term)) (b3_0 : Int) (b3_1 : Int) (b3_2 : List (I_Term)) : impl_compare.l1.raw k x47 x48 b2_0 b2_1 b2_2 b3_0 b3_1 b3_2 = impl_compare.l1 (k + 1) x47 x48 b2_0 b2_1 b2_2 b3_0 b3_1 b3_2 := by
  rw [impl_compare.l1.raw, impl_compare.l1]
  simp only [wr_i64]
  exact ite_congr rfl (fun h0 => ite_congr rfl (fun h1 => ite_congr rfl (fun h2 => Eq.trans (if_pos h1) (ite_congr rfl (fun h3 => bind_cg fun t1 => (ite_ng _ _)) (fun h3 => rfl))) (fun h2 => rfl)) (fun h1 => rfl)) (fun h0 => rfl)
theorem impl_compare.l1.chk (k : Nat) (x : TupT ST [.int .i64, .int .i64, .int .i64, .int .i64, .lst (.st 5), .int .i64, .int .i64, .lst (.st 5)]) : runU TT (calOf (impl_compare.ents k)) (jmps impl_compare.us k) (finK Tryz.f200 (retK TT (.one) [.int .i64])) Tryz.f200 (some 10) (canonC impl_compare.l1.c x) = impl_compare.l1 (k + 1) x.1 x.2.1 x.2.2.1 x.2.2.2.1 x.2.2.2.2.1 x.2.2.2.2.2.1 x.2.2.2.2.2.2.1 x.2.2.2.2.2.2.2 := Eq.trans (show _ = impl_compare.l1.raw k x.1 x.2.1 x.2.2.1 x.2.2.2.1 x.2.2.2.2.1 x.2.2.2.2.2.1 x.2.2.2.2.2.2.1 x.2.2.2.2.2.2.2 by kernel_rfl) (impl_compare.l1.clean k x.1 x.2.1 x.2.2.1 x.2.2.2.1 x.2.2.2.2.1 x.2.2.2.2.2.1 x.2.2.2.2.2.2.1 x.2.2.2.2.2.2.2)
theorem impl_compare.chk (k : Nat) (x : TupT ST [.int .i64, .int .i64, .lst (.st 5), .int .i64, .int .i64, .lst (.st 5)]) : runU TT (calOf (impl_compare.ents k)) (jmps impl_compare.us k) (finK Tryz.f200 (retK TT (.one) [.int .i64])) Tryz.f200 none (canon (args0 0 (argL [.agg 3, .agg 3] [.int .i64, .int .i64, .lst (.st 5), .int .i64, .int .i64, .lst (.st 5)] x)) []) = impl_compare.f (k + 1) x.1 x.2.1 x.2.2.1 x.2.2.2.1 x.2.2.2.2.1 x.2.2.2.2.2 := by kernel_rfl
theorem impl_compare.grp : ∀ k : Nat, EachU (EntOk Tryz.prog TT) [impl_compare.ent k] ∧ EachU (Ent2Ok Tryz.prog TT) [] := by
  intro k
  induction k using Nat.strongRecOn with
  | ind k ih =>
    exact And.intro (And.intro (fun_in tbl mixed 200 Tryz.f200 Tryz.func200 rfl (by kernel_rfl) [.agg 3, .agg 3] [.int .i64, .int .i64, .lst (.st 5), .int .i64, .int .i64, .lst (.st 5)] (.one) [.int .i64] (by kernel_rfl) impl_compare.ents impl_compare.us (And.intro (fun _ => rfl) (And.intro (fun _ => rfl) True.intro)) (And.intro impl_compare.l0.chk (And.intro impl_compare.l1.chk True.intro)) (fun k (x : TupT ST [.int .i64, .int .i64, .lst (.st 5), .int .i64, .int .i64, .lst (.st 5)]) => impl_compare.f k x.1 x.2.1 x.2.2.1 x.2.2.2.1 x.2.2.2.2.1 x.2.2.2.2.2) (fun _ => rfl) impl_compare.chk k (fun j h => EntsOk.mk (And.intro (ih j h).1.1 True.intro) True.intro)) True.intro) True.intro
theorem impl_compare.ok (k : Nat) : EntOk Tryz.prog TT (impl_compare.ent k) := (impl_compare.grp k).1.1
noncomputable def impl_Before.f (k : Nat) (a0_0 : Int) (a0_1 : Int) (l0_2 : List (I_Term)) (a1_0 : Int) (a1_1 : Int) (l1_2 : List (I_Term)) : Option (Bool) := (impl_compare.f k a0_0 a0_1 l0_2 a1_0 a1_1 l1_2).bind fun t1 => (some (decide (t1 < 0)))
@[reducible] noncomputable def impl_Before.us : List (CutU TT (TupT ST [.bool])) := []
noncomputable def impl_Before.ent (k : Nat) : Ent TT := ⟨211, [.agg 3, .agg 3], [.int .i64, .int .i64, .lst (.st 5), .int .i64, .int .i64, .lst (.st 5)], .one, [.bool], fun x => impl_Before.f k x.1 x.2.1 x.2.2.1 x.2.2.2.1 x.2.2.2.2.1 x.2.2.2.2.2⟩
noncomputable def impl_Before.ents (k : Nat) : Ents TT := ⟨[impl_compare.ent k], []⟩
theorem impl_Before.chk (k : Nat) (x : TupT ST [.int .i64, .int .i64, .lst (.st 5), .int .i64, .int .i64, .lst (.st 5)]) : runU TT (calOf (impl_Before.ents k)) (jmps impl_Before.us k) (finK Tryz.f211 (retK TT (.one) [.bool])) Tryz.f211 none (canon (args0 0 (argL [.agg 3, .agg 3] [.int .i64, .int .i64, .lst (.st 5), .int .i64, .int .i64, .lst (.st 5)] x)) []) = impl_Before.f k x.1 x.2.1 x.2.2.1 x.2.2.2.1 x.2.2.2.2.1 x.2.2.2.2.2 := by kernel_rfl
theorem impl_Before.ok (k : Nat) : EntOk Tryz.prog TT (impl_Before.ent k) :=
  fun_of tbl mixed 211 Tryz.f211 Tryz.func211 rfl (by kernel_rfl) [.agg 3, .agg 3] [.int .i64, .int .i64, .lst (.st 5), .int .i64, .int .i64, .lst (.st 5)] (.one) [.bool] (by kernel_rfl) impl_Before.ents impl_Before.us True.intro True.intro (fun k (x : TupT ST [.int .i64, .int .i64, .lst (.st 5), .int .i64, .int .i64, .lst (.st 5)]) => impl_Before.f k x.1 x.2.1 x.2.2.1 x.2.2.2.1 x.2.2.2.2.1 x.2.2.2.2.2) impl_Before.chk (fun k => EntsOk.mk (And.intro (impl_compare.ok k) True.intro) True.intro) k
noncomputable def impl_isSym.f (l0 : List (I_Sym)) (a1 : Int) : Option (Bool) := (impl_from.f a1 0 (wrap64 ((l0.length : Int) - 1))).bind fun t1 => (some t1)
@[reducible] noncomputable def impl_isSym.us : List (CutU TT (TupT ST [.bool])) := []
noncomputable def impl_isSym.ent : Ent TT := ⟨268, [.one, .one], [.lst (.st 4), .int .i64], .one, [.bool], fun x => impl_isSym.f x.1 x.2⟩
noncomputable def impl_isSym.ents (k : Nat) : Ents TT := ⟨[impl_from.ent], []⟩
noncomputable def impl_isSym.raw (k : Nat) (l0 : List (I_Sym)) (a1 : Int) : Option (Bool) := (impl_from.f a1 0 (wr .i64 ((l0.length : Int) - 1))).bind fun t1 => (some t1)
theorem impl_isSym.clean (k : Nat) (l0 : List (I_Sym)) (a1 : Int) : impl_isSym.raw k l0 a1 = impl_isSym.f l0 a1 := by
  rw [impl_isSym.raw, impl_isSym.f]
  simp only [wr_i64]
theorem impl_isSym.chk (k : Nat) (x : TupT ST [.lst (.st 4), .int .i64]) : runU TT (calOf (impl_isSym.ents k)) (jmps impl_isSym.us k) (finK Tryz.f268 (retK TT (.one) [.bool])) Tryz.f268 none (canon (args0 0 (argL [.one, .one] [.lst (.st 4), .int .i64] x)) []) = impl_isSym.f x.1 x.2 := Eq.trans (show _ = impl_isSym.raw k x.1 x.2 by kernel_rfl) (impl_isSym.clean k x.1 x.2)
theorem impl_isSym.ok : EntOk Tryz.prog TT (impl_isSym.ent) :=
  fun_of tbl mixed 268 Tryz.f268 Tryz.func268 rfl (by kernel_rfl) [.one, .one] [.lst (.st 4), .int .i64] (.one) [.bool] (by kernel_rfl) impl_isSym.ents impl_isSym.us True.intro True.intro (fun k (x : TupT ST [.lst (.st 4), .int .i64]) => impl_isSym.f x.1 x.2) impl_isSym.chk (fun k => EntsOk.mk (And.intro impl_from.ok True.intro) True.intro) 0
mutual
noncomputable def impl_formOk.l0 : Nat → List (I_Sym) → List (I_Term) → Int → Int → Int → Int → List (I_Term) → Option (Bool)
  | 0, _, _, _, _, _, _, _ => none
  | k + 1, x0, x64, x65, x66, b3_0, b3_1, b3_2 => if x66 < x65 then (if 0 ≤ x66 then (if x66 < (x64.length : Int) then ((impl_formOk.f k x0 ((rd_I_Term x64 x66).f0) ((rd_I_Term x64 x66).f1) ((rd_I_Term x64 x66).f2)).bind fun t4 => (if t4 = true then (if 0 ≤ b3_0 then (if b3_0 < (x0.length : Int) then (if ((rd_I_Sym x0 b3_0).f2) = true then (if ((rd_I_Term x64 x66).f0) = b3_0 then (some false) else (if x66 > 0 then (if 0 ≤ (wrap64 (x66 - 1)) then (if (wrap64 (x66 - 1)) < (b3_2.length : Int) then ((impl_Before.f k ((rd_I_Term x64 x66).f0) ((rd_I_Term x64 x66).f1) ((rd_I_Term x64 x66).f2) ((rd_I_Term b3_2 (wrap64 (x66 - 1))).f0) ((rd_I_Term b3_2 (wrap64 (x66 - 1))).f1) ((rd_I_Term b3_2 (wrap64 (x66 - 1))).f2)).bind fun t5 => (if t5 = true then (some false) else (impl_formOk.l0 k x0 x64 x65 (wrap64 (x66 + 1)) b3_0 b3_1 b3_2))) else none) else none) else (impl_formOk.l0 k x0 x64 x65 (wrap64 (x66 + 1)) b3_0 b3_1 b3_2))) else (impl_formOk.l0 k x0 x64 x65 (wrap64 (x66 + 1)) b3_0 b3_1 b3_2)) else none) else none) else (some false))) else none) else none) else (some true)
noncomputable def impl_formOk.f : Nat → List (I_Sym) → Int → Int → List (I_Term) → Option (Bool)
  | 0, _, _, _, _ => none
  | k + 1, l0, a1_0, a1_1, l1_2 => (impl_isVar.f a1_0 a1_1 l1_2).bind fun t1 => (if t1 = true then ((impl_from.f a1_1 0 99).bind fun t2 => (if t2 = true then (some (decide ((l1_2.length : Int) = 0))) else (some false))) else ((impl_isSym.f l0 a1_0).bind fun t3 => (if t3 = true then (if a1_1 = 0 then (if 0 ≤ a1_0 then (if a1_0 < (l0.length : Int) then (if ((rd_I_Sym l0 a1_0).f2) = true then (if (l1_2.length : Int) < 2 then (some false) else (impl_formOk.l0 k l0 l1_2 (l1_2.length : Int) 0 a1_0 a1_1 l1_2)) else (if (l1_2.length : Int) = ((rd_I_Sym l0 a1_0).f1) then (impl_formOk.l0 k l0 l1_2 (l1_2.length : Int) 0 a1_0 a1_1 l1_2) else (some false))) else none) else none) else (some false)) else (some false))))
end
noncomputable def impl_formOk.ent (k : Nat) : Ent TT := ⟨213, [.one, .agg 3], [.lst (.st 4), .int .i64, .int .i64, .lst (.st 5)], .one, [.bool], fun x => impl_formOk.f k x.1 x.2.1 x.2.2.1 x.2.2.2⟩
noncomputable def impl_formOk.l0.c : Cut := ⟨[0, 64], [(3, 2)], [(0, .one), (3, .ptr 3 0), (64, .one), (65, .one), (66, .one)], [(3, [.one, .one, .one])], [], [.lst (.st 4), .lst (.st 5), .int .i64, .int .i64, .int .i64, .int .i64, .lst (.st 5)]⟩
@[reducible] noncomputable def impl_formOk.us : List (CutU TT (TupT ST [.bool])) := [⟨6, impl_formOk.l0.c, fun k x => impl_formOk.l0 k x.1 x.2.1 x.2.2.1 x.2.2.2.1 x.2.2.2.2.1 x.2.2.2.2.2.1 x.2.2.2.2.2.2⟩]
noncomputable def impl_formOk.ents (k : Nat) : Ents TT := ⟨[impl_isVar.ent, impl_from.ent, impl_isSym.ent, impl_formOk.ent k, impl_Before.ent k], []⟩
noncomputable def impl_formOk.l0.raw (k : Nat) (x0 : List (I_Sym)) (x64 : List (I_Term)) (x65 : Int) (x66 : Int) (b3_0 : Int) (b3_1 : Int) (b3_2 : List (I_Term)) : Option (Bool) := if x66 < x65 then (if 0 ≤ x66 then (if x66 < (x64.length : Int) then ((impl_formOk.f k x0 ((rd_I_Term x64 x66).f0) ((rd_I_Term x64 x66).f1) ((rd_I_Term x64 x66).f2)).bind fun t4 => (if (!t4) = true then (some false) else (if 0 ≤ b3_0 then (if b3_0 < (x0.length : Int) then (if ((rd_I_Sym x0 b3_0).f2) = true then (if ((rd_I_Term x64 x66).f0) = b3_0 then (some false) else (if x66 > 0 then (if 0 ≤ (wr .i64 (x66 - 1)) then (if (wr .i64 (x66 - 1)) < (b3_2.length : Int) then ((impl_Before.f k ((rd_I_Term x64 x66).f0) ((rd_I_Term x64 x66).f1) ((rd_I_Term x64 x66).f2) ((rd_I_Term b3_2 (wr .i64 (x66 - 1))).f0) ((rd_I_Term b3_2 (wr .i64 (x66 - 1))).f1) ((rd_I_Term b3_2 (wr .i64 (x66 - 1))).f2)).bind fun t5 => (if t5 = true then (some false) else (impl_formOk.l0 k x0 x64 x65 (wr .i64 (x66 + 1)) b3_0 b3_1 b3_2))) else none) else none) else (impl_formOk.l0 k x0 x64 x65 (wr .i64 (x66 + 1)) b3_0 b3_1 b3_2))) else (impl_formOk.l0 k x0 x64 x65 (wr .i64 (x66 + 1)) b3_0 b3_1 b3_2)) else none) else none))) else none) else none) else (some true)
theorem impl_formOk.l0.clean (k : Nat) (x0 : List (I_Sym)) (x64 : List (I_Term)) (x65 : Int) (x66 : Int) (b3_0 : Int) (b3_1 : Int) (b3_2 : List (I_Term)) : impl_formOk.l0.raw k x0 x64 x65 x66 b3_0 b3_1 b3_2 = impl_formOk.l0 (k + 1) x0 x64 x65 x66 b3_0 b3_1 b3_2 := by
  rw [impl_formOk.l0.raw, impl_formOk.l0]
  simp only [wr_i64]
  exact ite_congr rfl (fun h0 => ite_congr rfl (fun h1 => ite_congr rfl (fun h2 => bind_cg fun t4 => (ite_nb _ _ _)) (fun h2 => rfl)) (fun h1 => rfl)) (fun h0 => rfl)
theorem impl_formOk.l0.chk (k : Nat) (x : TupT ST [.lst (.st 4), .lst (.st 5), .int .i64, .int .i64, .int .i64, .int .i64, .lst (.st 5)]) : runU TT (calOf (impl_formOk.ents k)) (jmps impl_formOk.us k) (finK Tryz.f213 (retK TT (.one) [.bool])) Tryz.f213 (some 6) (canonC impl_formOk.l0.c x) = impl_formOk.l0 (k + 1) x.1 x.2.1 x.2.2.1 x.2.2.2.1 x.2.2.2.2.1 x.2.2.2.2.2.1 x.2.2.2.2.2.2 := Eq.trans (show _ = impl_formOk.l0.raw k x.1 x.2.1 x.2.2.1 x.2.2.2.1 x.2.2.2.2.1 x.2.2.2.2.2.1 x.2.2.2.2.2.2 by kernel_rfl) (impl_formOk.l0.clean k x.1 x.2.1 x.2.2.1 x.2.2.2.1 x.2.2.2.2.1 x.2.2.2.2.2.1 x.2.2.2.2.2.2)
noncomputable def impl_formOk.raw (k : Nat) (l0 : List (I_Sym)) (a1_0 : Int) (a1_1 : Int) (l1_2 : List (I_Term)) : Option (Bool) := (impl_isVar.f a1_0 a1_1 l1_2).bind fun t1 => (if t1 = true then ((impl_from.f a1_1 0 99).bind fun t2 => (if t2 = true then (some (decide ((l1_2.length : Int) = 0))) else (some false))) else ((impl_isSym.f l0 a1_0).bind fun t3 => (if (!t3) = true then (some false) else (if ¬ a1_1 = 0 then (some false) else (if 0 ≤ a1_0 then (if a1_0 < (l0.length : Int) then (if (!((rd_I_Sym l0 a1_0).f2)) = true then (if 0 ≤ a1_0 then (if a1_0 < (l0.length : Int) then (if ¬ (l1_2.length : Int) = ((rd_I_Sym l0 a1_0).f1) then (some false) else (if 0 ≤ a1_0 then (if a1_0 < (l0.length : Int) then (if ((rd_I_Sym l0 a1_0).f2) = true then (if (l1_2.length : Int) < 2 then (some false) else (impl_formOk.l0 k l0 l1_2 (l1_2.length : Int) 0 a1_0 a1_1 l1_2)) else (impl_formOk.l0 k l0 l1_2 (l1_2.length : Int) 0 a1_0 a1_1 l1_2)) else none) else none)) else none) else none) else (if 0 ≤ a1_0 then (if a1_0 < (l0.length : Int) then (if ((rd_I_Sym l0 a1_0).f2) = true then (if (l1_2.length : Int) < 2 then (some false) else (impl_formOk.l0 k l0 l1_2 (l1_2.length : Int) 0 a1_0 a1_1 l1_2)) else (impl_formOk.l0 k l0 l1_2 (l1_2.length : Int) 0 a1_0 a1_1 l1_2)) else none) else none)) else none) else none)))))
theorem impl_formOk.clean (k : Nat) (l0 : List (I_Sym)) (a1_0 : Int) (a1_1 : Int) (l1_2 : List (I_Term)) : impl_formOk.raw k l0 a1_0 a1_1 l1_2 = impl_formOk.f (k + 1) l0 a1_0 a1_1 l1_2 := by
  rw [impl_formOk.raw, impl_formOk.f]
  exact bind_cg fun t1 => (ite_congr rfl (fun h0 => rfl) (fun h0 => bind_cg fun t3 => (Eq.trans (ite_nb _ _ _) (ite_congr rfl (fun h1 => Eq.trans (ite_ng _ _) (ite_congr rfl (fun h2 => ite_congr rfl (fun h3 => ite_congr rfl (fun h4 => Eq.trans (ite_nb _ _ _) (ite_congr rfl (fun h5 => Eq.trans (if_pos h3) (Eq.trans (if_pos h4) (if_pos h5))) (fun h5 => Eq.trans (if_pos h3) (Eq.trans (if_pos h4) (Eq.trans (ite_ng _ _) (ite_congr rfl (fun h6 => Eq.trans (if_pos h3) (Eq.trans (if_pos h4) (if_neg h5))) (fun h6 => rfl))))))) (fun h4 => rfl)) (fun h3 => rfl)) (fun h2 => rfl))) (fun h1 => rfl)))))
theorem impl_formOk.chk (k : Nat) (x : TupT ST [.lst (.st 4), .int .i64, .int .i64, .lst (.st 5)]) : runU TT (calOf (impl_formOk.ents k)) (jmps impl_formOk.us k) (finK Tryz.f213 (retK TT (.one) [.bool])) Tryz.f213 none (canon (args0 0 (argL [.one, .agg 3] [.lst (.st 4), .int .i64, .int .i64, .lst (.st 5)] x)) []) = impl_formOk.f (k + 1) x.1 x.2.1 x.2.2.1 x.2.2.2 := Eq.trans (show _ = impl_formOk.raw k x.1 x.2.1 x.2.2.1 x.2.2.2 by kernel_rfl) (impl_formOk.clean k x.1 x.2.1 x.2.2.1 x.2.2.2)
theorem impl_formOk.grp : ∀ k : Nat, EachU (EntOk Tryz.prog TT) [impl_formOk.ent k] ∧ EachU (Ent2Ok Tryz.prog TT) [] := by
  intro k
  induction k using Nat.strongRecOn with
  | ind k ih =>
    exact And.intro (And.intro (fun_in tbl mixed 213 Tryz.f213 Tryz.func213 rfl (by kernel_rfl) [.one, .agg 3] [.lst (.st 4), .int .i64, .int .i64, .lst (.st 5)] (.one) [.bool] (by kernel_rfl) impl_formOk.ents impl_formOk.us (And.intro (fun _ => rfl) True.intro) (And.intro impl_formOk.l0.chk True.intro) (fun k (x : TupT ST [.lst (.st 4), .int .i64, .int .i64, .lst (.st 5)]) => impl_formOk.f k x.1 x.2.1 x.2.2.1 x.2.2.2) (fun _ => rfl) impl_formOk.chk k (fun j h => EntsOk.mk (And.intro impl_isVar.ok (And.intro impl_from.ok (And.intro impl_isSym.ok (And.intro (ih j h).1.1 (And.intro (impl_Before.ok j) True.intro))))) True.intro)) True.intro) True.intro
theorem impl_formOk.ok (k : Nat) : EntOk Tryz.prog TT (impl_formOk.ent k) := (impl_formOk.grp k).1.1
noncomputable def impl_TermOk.f (k : Nat) (l0 : List (I_Sym)) (a1_0 : Int) (a1_1 : Int) (l1_2 : List (I_Term)) : Option (Bool) := (impl_SigOk.f k l0).bind fun t1 => (if t1 = true then ((impl_Parts.f k a1_0 a1_1 l1_2).bind fun t2 => (if t2 ≤ 60 then ((impl_formOk.f k l0 a1_0 a1_1 l1_2).bind fun t3 => (some t3)) else (some false))) else (some false))
@[reducible] noncomputable def impl_TermOk.us : List (CutU TT (TupT ST [.bool])) := []
noncomputable def impl_TermOk.ent (k : Nat) : Ent TT := ⟨90, [.one, .agg 3], [.lst (.st 4), .int .i64, .int .i64, .lst (.st 5)], .one, [.bool], fun x => impl_TermOk.f k x.1 x.2.1 x.2.2.1 x.2.2.2⟩
noncomputable def impl_TermOk.ents (k : Nat) : Ents TT := ⟨[impl_SigOk.ent k, impl_Parts.ent k, impl_formOk.ent k], []⟩
theorem impl_TermOk.chk (k : Nat) (x : TupT ST [.lst (.st 4), .int .i64, .int .i64, .lst (.st 5)]) : runU TT (calOf (impl_TermOk.ents k)) (jmps impl_TermOk.us k) (finK Tryz.f90 (retK TT (.one) [.bool])) Tryz.f90 none (canon (args0 0 (argL [.one, .agg 3] [.lst (.st 4), .int .i64, .int .i64, .lst (.st 5)] x)) []) = impl_TermOk.f k x.1 x.2.1 x.2.2.1 x.2.2.2 := by kernel_rfl
theorem impl_TermOk.ok (k : Nat) : EntOk Tryz.prog TT (impl_TermOk.ent k) :=
  fun_of tbl mixed 90 Tryz.f90 Tryz.func90 rfl (by kernel_rfl) [.one, .agg 3] [.lst (.st 4), .int .i64, .int .i64, .lst (.st 5)] (.one) [.bool] (by kernel_rfl) impl_TermOk.ents impl_TermOk.us True.intro True.intro (fun k (x : TupT ST [.lst (.st 4), .int .i64, .int .i64, .lst (.st 5)]) => impl_TermOk.f k x.1 x.2.1 x.2.2.1 x.2.2.2) impl_TermOk.chk (fun k => EntsOk.mk (And.intro (impl_SigOk.ok k) (And.intro (impl_Parts.ok k) (And.intro (impl_formOk.ok k) True.intro))) True.intro) k
noncomputable def impl_LitOk.f (k : Nat) (l0 : List (I_Sym)) (a1_0 : Bool) (a1_1 : Int) (a1_2 : Int) (l1_3 : List (I_Term)) (a1_4 : Int) (a1_5 : Int) (l1_6 : List (I_Term)) : Option (Bool) := (impl_TermOk.f k l0 a1_1 a1_2 l1_3).bind fun t1 => (if t1 = true then ((impl_TermOk.f k l0 a1_4 a1_5 l1_6).bind fun t2 => (if t2 = true then ((impl_Before.f k a1_1 a1_2 l1_3 a1_4 a1_5 l1_6).bind fun t3 => (some (!t3))) else (some false))) else (some false))
@[reducible] noncomputable def impl_LitOk.us : List (CutU TT (TupT ST [.bool])) := []
noncomputable def impl_LitOk.ent (k : Nat) : Ent TT := ⟨111, [.one, .agg 7], [.lst (.st 4), .bool, .int .i64, .int .i64, .lst (.st 5), .int .i64, .int .i64, .lst (.st 5)], .one, [.bool], fun x => impl_LitOk.f k x.1 x.2.1 x.2.2.1 x.2.2.2.1 x.2.2.2.2.1 x.2.2.2.2.2.1 x.2.2.2.2.2.2.1 x.2.2.2.2.2.2.2⟩
noncomputable def impl_LitOk.ents (k : Nat) : Ents TT := ⟨[impl_TermOk.ent k, impl_Before.ent k], []⟩
theorem impl_LitOk.chk (k : Nat) (x : TupT ST [.lst (.st 4), .bool, .int .i64, .int .i64, .lst (.st 5), .int .i64, .int .i64, .lst (.st 5)]) : runU TT (calOf (impl_LitOk.ents k)) (jmps impl_LitOk.us k) (finK Tryz.f111 (retK TT (.one) [.bool])) Tryz.f111 none (canon (args0 0 (argL [.one, .agg 7] [.lst (.st 4), .bool, .int .i64, .int .i64, .lst (.st 5), .int .i64, .int .i64, .lst (.st 5)] x)) []) = impl_LitOk.f k x.1 x.2.1 x.2.2.1 x.2.2.2.1 x.2.2.2.2.1 x.2.2.2.2.2.1 x.2.2.2.2.2.2.1 x.2.2.2.2.2.2.2 := by kernel_rfl
theorem impl_LitOk.ok (k : Nat) : EntOk Tryz.prog TT (impl_LitOk.ent k) :=
  fun_of tbl mixed 111 Tryz.f111 Tryz.func111 rfl (by kernel_rfl) [.one, .agg 7] [.lst (.st 4), .bool, .int .i64, .int .i64, .lst (.st 5), .int .i64, .int .i64, .lst (.st 5)] (.one) [.bool] (by kernel_rfl) impl_LitOk.ents impl_LitOk.us True.intro True.intro (fun k (x : TupT ST [.lst (.st 4), .bool, .int .i64, .int .i64, .lst (.st 5), .int .i64, .int .i64, .lst (.st 5)]) => impl_LitOk.f k x.1 x.2.1 x.2.2.1 x.2.2.2.1 x.2.2.2.2.1 x.2.2.2.2.2.1 x.2.2.2.2.2.2.1 x.2.2.2.2.2.2.2) impl_LitOk.chk (fun k => EntsOk.mk (And.intro (impl_TermOk.ok k) (And.intro (impl_Before.ok k) True.intro)) True.intro) k
noncomputable def impl_compareLits.f (k : Nat) (a0_0 : Bool) (a0_1 : Int) (a0_2 : Int) (l0_3 : List (I_Term)) (a0_4 : Int) (a0_5 : Int) (l0_6 : List (I_Term)) (a1_0 : Bool) (a1_1 : Int) (a1_2 : Int) (l1_3 : List (I_Term)) (a1_4 : Int) (a1_5 : Int) (l1_6 : List (I_Term)) : Option (Int) := if a0_0 = true then (if a1_0 = true then ((impl_compare.f k a0_1 a0_2 l0_3 a1_1 a1_2 l1_3).bind fun t5 => (if t5 = 0 then ((impl_compare.f k a0_4 a0_5 l0_6 a1_4 a1_5 l1_6).bind fun t6 => (some t6)) else (some t5))) else (some 1)) else (if a1_0 = true then (some (-1)) else ((impl_compare.f k a0_1 a0_2 l0_3 a1_1 a1_2 l1_3).bind fun t3 => (if t3 = 0 then ((impl_compare.f k a0_4 a0_5 l0_6 a1_4 a1_5 l1_6).bind fun t4 => (some t4)) else (some t3))))
@[reducible] noncomputable def impl_compareLits.us : List (CutU TT (TupT ST [.int .i64])) := []
noncomputable def impl_compareLits.ent (k : Nat) : Ent TT := ⟨216, [.agg 7, .agg 7], [.bool, .int .i64, .int .i64, .lst (.st 5), .int .i64, .int .i64, .lst (.st 5), .bool, .int .i64, .int .i64, .lst (.st 5), .int .i64, .int .i64, .lst (.st 5)], .one, [.int .i64], fun x => impl_compareLits.f k x.1 x.2.1 x.2.2.1 x.2.2.2.1 x.2.2.2.2.1 x.2.2.2.2.2.1 x.2.2.2.2.2.2.1 x.2.2.2.2.2.2.2.1 x.2.2.2.2.2.2.2.2.1 x.2.2.2.2.2.2.2.2.2.1 x.2.2.2.2.2.2.2.2.2.2.1 x.2.2.2.2.2.2.2.2.2.2.2.1 x.2.2.2.2.2.2.2.2.2.2.2.2.1 x.2.2.2.2.2.2.2.2.2.2.2.2.2⟩
noncomputable def impl_compareLits.ents (k : Nat) : Ents TT := ⟨[impl_compare.ent k], []⟩
noncomputable def impl_compareLits.raw (k : Nat) (a0_0 : Bool) (a0_1 : Int) (a0_2 : Int) (l0_3 : List (I_Term)) (a0_4 : Int) (a0_5 : Int) (l0_6 : List (I_Term)) (a1_0 : Bool) (a1_1 : Int) (a1_2 : Int) (l1_3 : List (I_Term)) (a1_4 : Int) (a1_5 : Int) (l1_6 : List (I_Term)) : Option (Int) := if (!a0_0) = true then (if a1_0 = true then (some (-1)) else (if a0_0 = true then (if (!a1_0) = true then (some 1) else ((impl_compare.f k a0_1 a0_2 l0_3 a1_1 a1_2 l1_3).bind fun t1 => (if ¬ t1 = 0 then (some t1) else ((impl_compare.f k a0_4 a0_5 l0_6 a1_4 a1_5 l1_6).bind fun t2 => (some t2))))) else ((impl_compare.f k a0_1 a0_2 l0_3 a1_1 a1_2 l1_3).bind fun t3 => (if ¬ t3 = 0 then (some t3) else ((impl_compare.f k a0_4 a0_5 l0_6 a1_4 a1_5 l1_6).bind fun t4 => (some t4)))))) else (if a0_0 = true then (if (!a1_0) = true then (some 1) else ((impl_compare.f k a0_1 a0_2 l0_3 a1_1 a1_2 l1_3).bind fun t5 => (if ¬ t5 = 0 then (some t5) else ((impl_compare.f k a0_4 a0_5 l0_6 a1_4 a1_5 l1_6).bind fun t6 => (some t6))))) else ((impl_compare.f k a0_1 a0_2 l0_3 a1_1 a1_2 l1_3).bind fun t7 => (if ¬ t7 = 0 then (some t7) else ((impl_compare.f k a0_4 a0_5 l0_6 a1_4 a1_5 l1_6).bind fun t8 => (some t8)))))
theorem impl_compareLits.clean (k : Nat) (a0_0 : Bool) (a0_1 : Int) (a0_2 : Int) (l0_3 : List (I_Term)) (a0_4 : Int) (a0_5 : Int) (l0_6 : List (I_Term)) (a1_0 : Bool) (a1_1 : Int) (a1_2 : Int) (l1_3 : List (I_Term)) (a1_4 : Int) (a1_5 : Int) (l1_6 : List (I_Term)) : impl_compareLits.raw k a0_0 a0_1 a0_2 l0_3 a0_4 a0_5 l0_6 a1_0 a1_1 a1_2 l1_3 a1_4 a1_5 l1_6 = impl_compareLits.f k a0_0 a0_1 a0_2 l0_3 a0_4 a0_5 l0_6 a1_0 a1_1 a1_2 l1_3 a1_4 a1_5 l1_6 := by
  rw [impl_compareLits.raw, impl_compareLits.f]
  exact Eq.trans (ite_nb _ _ _) (ite_congr rfl (fun h0 => Eq.trans (if_pos h0) (Eq.trans (ite_nb _ _ _) (ite_congr rfl (fun h1 => bind_cg fun t5 => (ite_ng _ _)) (fun h1 => rfl)))) (fun h0 => ite_congr rfl (fun h1 => rfl) (fun h1 => Eq.trans (if_neg h0) (bind_cg fun t3 => (ite_ng _ _)))))
theorem impl_compareLits.chk (k : Nat) (x : TupT ST [.bool, .int .i64, .int .i64, .lst (.st 5), .int .i64, .int .i64, .lst (.st 5), .bool, .int .i64, .int .i64, .lst (.st 5), .int .i64, .int .i64, .lst (.st 5)]) : runU TT (calOf (impl_compareLits.ents k)) (jmps impl_compareLits.us k) (finK Tryz.f216 (retK TT (.one) [.int .i64])) Tryz.f216 none (canon (args0 0 (argL [.agg 7, .agg 7] [.bool, .int .i64, .int .i64, .lst (.st 5), .int .i64, .int .i64, .lst (.st 5), .bool, .int .i64, .int .i64, .lst (.st 5), .int .i64, .int .i64, .lst (.st 5)] x)) []) = impl_compareLits.f k x.1 x.2.1 x.2.2.1 x.2.2.2.1 x.2.2.2.2.1 x.2.2.2.2.2.1 x.2.2.2.2.2.2.1 x.2.2.2.2.2.2.2.1 x.2.2.2.2.2.2.2.2.1 x.2.2.2.2.2.2.2.2.2.1 x.2.2.2.2.2.2.2.2.2.2.1 x.2.2.2.2.2.2.2.2.2.2.2.1 x.2.2.2.2.2.2.2.2.2.2.2.2.1 x.2.2.2.2.2.2.2.2.2.2.2.2.2 := Eq.trans (show _ = impl_compareLits.raw k x.1 x.2.1 x.2.2.1 x.2.2.2.1 x.2.2.2.2.1 x.2.2.2.2.2.1 x.2.2.2.2.2.2.1 x.2.2.2.2.2.2.2.1 x.2.2.2.2.2.2.2.2.1 x.2.2.2.2.2.2.2.2.2.1 x.2.2.2.2.2.2.2.2.2.2.1 x.2.2.2.2.2.2.2.2.2.2.2.1 x.2.2.2.2.2.2.2.2.2.2.2.2.1 x.2.2.2.2.2.2.2.2.2.2.2.2.2 by kernel_rfl) (impl_compareLits.clean k x.1 x.2.1 x.2.2.1 x.2.2.2.1 x.2.2.2.2.1 x.2.2.2.2.2.1 x.2.2.2.2.2.2.1 x.2.2.2.2.2.2.2.1 x.2.2.2.2.2.2.2.2.1 x.2.2.2.2.2.2.2.2.2.1 x.2.2.2.2.2.2.2.2.2.2.1 x.2.2.2.2.2.2.2.2.2.2.2.1 x.2.2.2.2.2.2.2.2.2.2.2.2.1 x.2.2.2.2.2.2.2.2.2.2.2.2.2)
theorem impl_compareLits.ok (k : Nat) : EntOk Tryz.prog TT (impl_compareLits.ent k) :=
  fun_of tbl mixed 216 Tryz.f216 Tryz.func216 rfl (by kernel_rfl) [.agg 7, .agg 7] [.bool, .int .i64, .int .i64, .lst (.st 5), .int .i64, .int .i64, .lst (.st 5), .bool, .int .i64, .int .i64, .lst (.st 5), .int .i64, .int .i64, .lst (.st 5)] (.one) [.int .i64] (by kernel_rfl) impl_compareLits.ents impl_compareLits.us True.intro True.intro (fun k (x : TupT ST [.bool, .int .i64, .int .i64, .lst (.st 5), .int .i64, .int .i64, .lst (.st 5), .bool, .int .i64, .int .i64, .lst (.st 5), .int .i64, .int .i64, .lst (.st 5)]) => impl_compareLits.f k x.1 x.2.1 x.2.2.1 x.2.2.2.1 x.2.2.2.2.1 x.2.2.2.2.2.1 x.2.2.2.2.2.2.1 x.2.2.2.2.2.2.2.1 x.2.2.2.2.2.2.2.2.1 x.2.2.2.2.2.2.2.2.2.1 x.2.2.2.2.2.2.2.2.2.2.1 x.2.2.2.2.2.2.2.2.2.2.2.1 x.2.2.2.2.2.2.2.2.2.2.2.2.1 x.2.2.2.2.2.2.2.2.2.2.2.2.2) impl_compareLits.chk (fun k => EntsOk.mk (And.intro (impl_compare.ok k) True.intro) True.intro) k
noncomputable def impl_LitBefore.f (k : Nat) (a0_0 : Bool) (a0_1 : Int) (a0_2 : Int) (l0_3 : List (I_Term)) (a0_4 : Int) (a0_5 : Int) (l0_6 : List (I_Term)) (a1_0 : Bool) (a1_1 : Int) (a1_2 : Int) (l1_3 : List (I_Term)) (a1_4 : Int) (a1_5 : Int) (l1_6 : List (I_Term)) : Option (Bool) := (impl_compareLits.f k a0_0 a0_1 a0_2 l0_3 a0_4 a0_5 l0_6 a1_0 a1_1 a1_2 l1_3 a1_4 a1_5 l1_6).bind fun t1 => (some (decide (t1 < 0)))
@[reducible] noncomputable def impl_LitBefore.us : List (CutU TT (TupT ST [.bool])) := []
noncomputable def impl_LitBefore.ent (k : Nat) : Ent TT := ⟨112, [.agg 7, .agg 7], [.bool, .int .i64, .int .i64, .lst (.st 5), .int .i64, .int .i64, .lst (.st 5), .bool, .int .i64, .int .i64, .lst (.st 5), .int .i64, .int .i64, .lst (.st 5)], .one, [.bool], fun x => impl_LitBefore.f k x.1 x.2.1 x.2.2.1 x.2.2.2.1 x.2.2.2.2.1 x.2.2.2.2.2.1 x.2.2.2.2.2.2.1 x.2.2.2.2.2.2.2.1 x.2.2.2.2.2.2.2.2.1 x.2.2.2.2.2.2.2.2.2.1 x.2.2.2.2.2.2.2.2.2.2.1 x.2.2.2.2.2.2.2.2.2.2.2.1 x.2.2.2.2.2.2.2.2.2.2.2.2.1 x.2.2.2.2.2.2.2.2.2.2.2.2.2⟩
noncomputable def impl_LitBefore.ents (k : Nat) : Ents TT := ⟨[impl_compareLits.ent k], []⟩
theorem impl_LitBefore.chk (k : Nat) (x : TupT ST [.bool, .int .i64, .int .i64, .lst (.st 5), .int .i64, .int .i64, .lst (.st 5), .bool, .int .i64, .int .i64, .lst (.st 5), .int .i64, .int .i64, .lst (.st 5)]) : runU TT (calOf (impl_LitBefore.ents k)) (jmps impl_LitBefore.us k) (finK Tryz.f112 (retK TT (.one) [.bool])) Tryz.f112 none (canon (args0 0 (argL [.agg 7, .agg 7] [.bool, .int .i64, .int .i64, .lst (.st 5), .int .i64, .int .i64, .lst (.st 5), .bool, .int .i64, .int .i64, .lst (.st 5), .int .i64, .int .i64, .lst (.st 5)] x)) []) = impl_LitBefore.f k x.1 x.2.1 x.2.2.1 x.2.2.2.1 x.2.2.2.2.1 x.2.2.2.2.2.1 x.2.2.2.2.2.2.1 x.2.2.2.2.2.2.2.1 x.2.2.2.2.2.2.2.2.1 x.2.2.2.2.2.2.2.2.2.1 x.2.2.2.2.2.2.2.2.2.2.1 x.2.2.2.2.2.2.2.2.2.2.2.1 x.2.2.2.2.2.2.2.2.2.2.2.2.1 x.2.2.2.2.2.2.2.2.2.2.2.2.2 := by kernel_rfl
theorem impl_LitBefore.ok (k : Nat) : EntOk Tryz.prog TT (impl_LitBefore.ent k) :=
  fun_of tbl mixed 112 Tryz.f112 Tryz.func112 rfl (by kernel_rfl) [.agg 7, .agg 7] [.bool, .int .i64, .int .i64, .lst (.st 5), .int .i64, .int .i64, .lst (.st 5), .bool, .int .i64, .int .i64, .lst (.st 5), .int .i64, .int .i64, .lst (.st 5)] (.one) [.bool] (by kernel_rfl) impl_LitBefore.ents impl_LitBefore.us True.intro True.intro (fun k (x : TupT ST [.bool, .int .i64, .int .i64, .lst (.st 5), .int .i64, .int .i64, .lst (.st 5), .bool, .int .i64, .int .i64, .lst (.st 5), .int .i64, .int .i64, .lst (.st 5)]) => impl_LitBefore.f k x.1 x.2.1 x.2.2.1 x.2.2.2.1 x.2.2.2.2.1 x.2.2.2.2.2.1 x.2.2.2.2.2.2.1 x.2.2.2.2.2.2.2.1 x.2.2.2.2.2.2.2.2.1 x.2.2.2.2.2.2.2.2.2.1 x.2.2.2.2.2.2.2.2.2.2.1 x.2.2.2.2.2.2.2.2.2.2.2.1 x.2.2.2.2.2.2.2.2.2.2.2.2.1 x.2.2.2.2.2.2.2.2.2.2.2.2.2) impl_LitBefore.chk (fun k => EntsOk.mk (And.intro (impl_compareLits.ok k) True.intro) True.intro) k
noncomputable def impl_ClauseOk.l0 : Nat → List (I_Sym) → List (I_Lit) → Int → Int → List (I_Lit) → Option (Bool)
  | 0, _, _, _, _, _ => none
  | k + 1, x0, x8, x9, x10, b3_0 => if x10 < x9 then (if 0 ≤ x10 then (if x10 < (x8.length : Int) then ((impl_LitOk.f k x0 ((rd_I_Lit x8 x10).f0) ((rd_I_Lit x8 x10).f1.f0) ((rd_I_Lit x8 x10).f1.f1) ((rd_I_Lit x8 x10).f1.f2) ((rd_I_Lit x8 x10).f2.f0) ((rd_I_Lit x8 x10).f2.f1) ((rd_I_Lit x8 x10).f2.f2)).bind fun t1 => (if t1 = true then (if x10 > 0 then (if 0 ≤ (wrap64 (x10 - 1)) then (if (wrap64 (x10 - 1)) < (b3_0.length : Int) then ((impl_LitBefore.f k ((rd_I_Lit b3_0 (wrap64 (x10 - 1))).f0) ((rd_I_Lit b3_0 (wrap64 (x10 - 1))).f1.f0) ((rd_I_Lit b3_0 (wrap64 (x10 - 1))).f1.f1) ((rd_I_Lit b3_0 (wrap64 (x10 - 1))).f1.f2) ((rd_I_Lit b3_0 (wrap64 (x10 - 1))).f2.f0) ((rd_I_Lit b3_0 (wrap64 (x10 - 1))).f2.f1) ((rd_I_Lit b3_0 (wrap64 (x10 - 1))).f2.f2) ((rd_I_Lit x8 x10).f0) ((rd_I_Lit x8 x10).f1.f0) ((rd_I_Lit x8 x10).f1.f1) ((rd_I_Lit x8 x10).f1.f2) ((rd_I_Lit x8 x10).f2.f0) ((rd_I_Lit x8 x10).f2.f1) ((rd_I_Lit x8 x10).f2.f2)).bind fun t2 => (if t2 = true then (impl_ClauseOk.l0 k x0 x8 x9 (wrap64 (x10 + 1)) b3_0) else (some false))) else none) else none) else (impl_ClauseOk.l0 k x0 x8 x9 (wrap64 (x10 + 1)) b3_0)) else (some false))) else none) else none) else (some (decide ((b3_0.length : Int) ≤ 8)))
noncomputable def impl_ClauseOk.f (k : Nat) (l0 : List (I_Sym)) (l1_0 : List (I_Lit)) : Option (Bool) := impl_ClauseOk.l0 k l0 l1_0 (l1_0.length : Int) 0 l1_0
noncomputable def impl_ClauseOk.l0.c : Cut := ⟨[0, 8], [(3, 0)], [(0, .one), (3, .ptr 3 0), (8, .one), (9, .one), (10, .one)], [(3, [.one])], [], [.lst (.st 4), .lst (.st 6), .int .i64, .int .i64, .lst (.st 6)]⟩
@[reducible] noncomputable def impl_ClauseOk.us : List (CutU TT (TupT ST [.bool])) := [⟨2, impl_ClauseOk.l0.c, fun k x => impl_ClauseOk.l0 k x.1 x.2.1 x.2.2.1 x.2.2.2.1 x.2.2.2.2⟩]
noncomputable def impl_ClauseOk.ent (k : Nat) : Ent TT := ⟨34, [.one, .agg 1], [.lst (.st 4), .lst (.st 6)], .one, [.bool], fun x => impl_ClauseOk.f k x.1 x.2⟩
noncomputable def impl_ClauseOk.ents (k : Nat) : Ents TT := ⟨[impl_LitOk.ent k, impl_LitBefore.ent k], []⟩
noncomputable def impl_ClauseOk.l0.raw (k : Nat) (x0 : List (I_Sym)) (x8 : List (I_Lit)) (x9 : Int) (x10 : Int) (b3_0 : List (I_Lit)) : Option (Bool) := if x10 < x9 then (if 0 ≤ x10 then (if x10 < (x8.length : Int) then ((impl_LitOk.f k x0 ((rd_I_Lit x8 x10).f0) ((rd_I_Lit x8 x10).f1.f0) ((rd_I_Lit x8 x10).f1.f1) ((rd_I_Lit x8 x10).f1.f2) ((rd_I_Lit x8 x10).f2.f0) ((rd_I_Lit x8 x10).f2.f1) ((rd_I_Lit x8 x10).f2.f2)).bind fun t1 => (if (!t1) = true then (some false) else (if x10 > 0 then (if 0 ≤ (wr .i64 (x10 - 1)) then (if (wr .i64 (x10 - 1)) < (b3_0.length : Int) then ((impl_LitBefore.f k ((rd_I_Lit b3_0 (wr .i64 (x10 - 1))).f0) ((rd_I_Lit b3_0 (wr .i64 (x10 - 1))).f1.f0) ((rd_I_Lit b3_0 (wr .i64 (x10 - 1))).f1.f1) ((rd_I_Lit b3_0 (wr .i64 (x10 - 1))).f1.f2) ((rd_I_Lit b3_0 (wr .i64 (x10 - 1))).f2.f0) ((rd_I_Lit b3_0 (wr .i64 (x10 - 1))).f2.f1) ((rd_I_Lit b3_0 (wr .i64 (x10 - 1))).f2.f2) ((rd_I_Lit x8 x10).f0) ((rd_I_Lit x8 x10).f1.f0) ((rd_I_Lit x8 x10).f1.f1) ((rd_I_Lit x8 x10).f1.f2) ((rd_I_Lit x8 x10).f2.f0) ((rd_I_Lit x8 x10).f2.f1) ((rd_I_Lit x8 x10).f2.f2)).bind fun t2 => (if (!t2) = true then (some false) else (impl_ClauseOk.l0 k x0 x8 x9 (wr .i64 (x10 + 1)) b3_0))) else none) else none) else (impl_ClauseOk.l0 k x0 x8 x9 (wr .i64 (x10 + 1)) b3_0)))) else none) else none) else (some (decide ((b3_0.length : Int) ≤ 8)))
theorem impl_ClauseOk.l0.clean (k : Nat) (x0 : List (I_Sym)) (x8 : List (I_Lit)) (x9 : Int) (x10 : Int) (b3_0 : List (I_Lit)) : impl_ClauseOk.l0.raw k x0 x8 x9 x10 b3_0 = impl_ClauseOk.l0 (k + 1) x0 x8 x9 x10 b3_0 := by
  rw [impl_ClauseOk.l0.raw, impl_ClauseOk.l0]
  simp only [wr_i64]
  exact ite_congr rfl (fun h0 => ite_congr rfl (fun h1 => ite_congr rfl (fun h2 => bind_cg fun t1 => (Eq.trans (ite_nb _ _ _) (ite_congr rfl (fun h3 => ite_congr rfl (fun h4 => ite_congr rfl (fun h5 => ite_congr rfl (fun h6 => bind_cg fun t2 => (ite_nb _ _ _)) (fun h6 => rfl)) (fun h5 => rfl)) (fun h4 => rfl)) (fun h3 => rfl)))) (fun h2 => rfl)) (fun h1 => rfl)) (fun h0 => rfl)
theorem impl_ClauseOk.l0.chk (k : Nat) (x : TupT ST [.lst (.st 4), .lst (.st 6), .int .i64, .int .i64, .lst (.st 6)]) : runU TT (calOf (impl_ClauseOk.ents k)) (jmps impl_ClauseOk.us k) (finK Tryz.f34 (retK TT (.one) [.bool])) Tryz.f34 (some 2) (canonC impl_ClauseOk.l0.c x) = impl_ClauseOk.l0 (k + 1) x.1 x.2.1 x.2.2.1 x.2.2.2.1 x.2.2.2.2 := Eq.trans (show _ = impl_ClauseOk.l0.raw k x.1 x.2.1 x.2.2.1 x.2.2.2.1 x.2.2.2.2 by kernel_rfl) (impl_ClauseOk.l0.clean k x.1 x.2.1 x.2.2.1 x.2.2.2.1 x.2.2.2.2)
theorem impl_ClauseOk.chk (k : Nat) (x : TupT ST [.lst (.st 4), .lst (.st 6)]) : runU TT (calOf (impl_ClauseOk.ents k)) (jmps impl_ClauseOk.us k) (finK Tryz.f34 (retK TT (.one) [.bool])) Tryz.f34 none (canon (args0 0 (argL [.one, .agg 1] [.lst (.st 4), .lst (.st 6)] x)) []) = impl_ClauseOk.f k x.1 x.2 := by kernel_rfl
theorem impl_ClauseOk.ok (k : Nat) : EntOk Tryz.prog TT (impl_ClauseOk.ent k) :=
  fun_of tbl mixed 34 Tryz.f34 Tryz.func34 rfl (by kernel_rfl) [.one, .agg 1] [.lst (.st 4), .lst (.st 6)] (.one) [.bool] (by kernel_rfl) impl_ClauseOk.ents impl_ClauseOk.us (And.intro (fun _ => rfl) True.intro) (And.intro impl_ClauseOk.l0.chk True.intro) (fun k (x : TupT ST [.lst (.st 4), .lst (.st 6)]) => impl_ClauseOk.f k x.1 x.2) impl_ClauseOk.chk (fun k => EntsOk.mk (And.intro (impl_LitOk.ok k) (And.intro (impl_LitBefore.ok k) True.intro)) True.intro) k
noncomputable def slices_Grow_int_int_v2.f (a1 : Int) : Option ((List (Int))) := if a1 < 0 then none else (if (wrap64 (a1 - (wrap64 (0 - 0)))) > 0 then (if 0 < (wrap64 (a1 - (wrap64 (0 - 0)))) then (if (wrap64 (a1 - (wrap64 (0 - 0)))) ≤ (1599289640401 : Int) then (if 0 ≤ ((List.replicate (wrap64 (a1 - (wrap64 (0 - 0))) : Int).toNat 0).length : Int) then (some ((List.replicate (wrap64 (a1 - (wrap64 (0 - 0))) : Int).toNat 0).take (0 : Int).toNat)) else none) else none) else none) else (some []))
noncomputable def slices_Grow_int_int_v2.pin : Cut := ⟨[], [], [(0, .nil), (1, .one)], [], [], [.int .i64]⟩
noncomputable def slices_Grow_int_int_v2.pout : Cut := ⟨[], [], [(4, .own 22)], [], [(22, .int .i64)], [.lst (.int .i64)]⟩
@[reducible] noncomputable def slices_Grow_int_int_v2.us : List (CutU TT (TupT ST slices_Grow_int_int_v2.pout.es)) := []
noncomputable def slices_Grow_int_int_v2.ent : Ent2 TT := ⟨228, 2, slices_Grow_int_int_v2.pin, slices_Grow_int_int_v2.pout, Tryz.f228.results.toList, fun x => slices_Grow_int_int_v2.f x⟩
noncomputable def slices_Grow_int_int_v2.ents (k : Nat) : Ents TT := ⟨[], []⟩
noncomputable def slices_Grow_int_int_v2.raw (k : Nat) (a1 : Int) : Option ((List (Int))) := if a1 < 0 then none else (if (wr .i64 (a1 - (wr .i64 (0 - 0)))) > 0 then (if 0 < (wr .i64 (a1 - (wr .i64 (0 - 0)))) then (if (wr .i64 (a1 - (wr .i64 (0 - 0)))) ≤ (1599289640401 : Int) then (if (0 : Int) ≤ 0 then (if 0 ≤ ((List.replicate (wr .i64 (a1 - (wr .i64 (0 - 0))) : Int).toNat 0).length : Int) then (some ((List.replicate (wr .i64 (a1 - (wr .i64 (0 - 0))) : Int).toNat 0).take (0 : Int).toNat)) else none) else none) else none) else none) else (some []))
theorem slices_Grow_int_int_v2.clean (k : Nat) (a1 : Int) : slices_Grow_int_int_v2.raw k a1 = slices_Grow_int_int_v2.f a1 := by
  rw [slices_Grow_int_int_v2.raw, slices_Grow_int_int_v2.f]
  simp only [wr_i64]
  exact ite_congr rfl (fun h0 => rfl) (fun h0 => ite_congr rfl (fun h1 => ite_congr rfl (fun h2 => ite_congr rfl (fun h3 => if_pos (by decide)) (fun h3 => rfl)) (fun h2 => rfl)) (fun h1 => rfl))
theorem slices_Grow_int_int_v2.chk (k : Nat) (x : TupT ST slices_Grow_int_int_v2.pin.es) : runU TT (calOf (slices_Grow_int_int_v2.ents k)) (jmps slices_Grow_int_int_v2.us k) (finC slices_Grow_int_int_v2.pout Tryz.f228.results.toList) Tryz.f228 none (canonC slices_Grow_int_int_v2.pin x) = slices_Grow_int_int_v2.f x := Eq.trans (show _ = slices_Grow_int_int_v2.raw k x by kernel_rfl) (slices_Grow_int_int_v2.clean k x)
theorem slices_Grow_int_int_v2.ok : Ent2Ok Tryz.prog TT (slices_Grow_int_int_v2.ent) :=
  fun_of2 tbl mixed 228 Tryz.f228 Tryz.func228 rfl (by kernel_rfl) 2 slices_Grow_int_int_v2.pin slices_Grow_int_int_v2.pout (by kernel_rfl) slices_Grow_int_int_v2.ents slices_Grow_int_int_v2.us True.intro True.intro (fun k (x : TupT ST slices_Grow_int_int_v2.pin.es) => slices_Grow_int_int_v2.f x) slices_Grow_int_int_v2.chk (fun k => EntsOk.mk True.intro True.intro) 0
end
end Go.Proofs.YtggmgmkhohmfiaaGreat.PE
