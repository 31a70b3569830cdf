import Derived.Test.YtggmgmkhohmfiaaGreatProg
import Derived.Test.YtggmgmkhohmfiaaGreatPEc
namespace Go.Proofs.YtggmgmkhohmfiaaGreat.PE
noncomputable section
open Go Go.RowKit Go.Proofs Go.WideShapes Go.ChangeShapes
set_option linter.unusedVariables false
def rd (xs:List Int) (i:Int):Int:=xs.getD i.toNat 0
def rd_Ls_i64 (xs:List (List Int)) (i:Int):List Int:=xs.getD i.toNat []
theorem bind_cg {α β:Type} {o:Option α} {f g:α→Option β} (h:∀x,f x=g x):o.bind f=o.bind g:=by rw [funext h]
theorem ite_ng {α:Type} {p:Prop} [Decidable p] (a b:α):(if ¬p then a else b)=if p then b else a:=by by_cases h:p <;> simp [h]
theorem ite_nb {α:Type} (c:Bool) (a b:α):(if (!c)=true then a else b)=if c=true then b else a:=by cases c <;> rfl
def rdOf {α:Type} (z:α) (xs:List α) (i:Int):α:=xs.getD i.toNat z
structure I_Sym where
 f0:ByteArray
 f1:Int
 f2:Bool
noncomputable def zI_Sym:I_Sym:=⟨⟨#[]⟩,0,false⟩
noncomputable def rd_I_Sym (xs:List I_Sym) (i:Int):I_Sym:=xs.getD i.toNat zI_Sym
structure I_Term where
 f0:Int
 f1:Int
 f2:List (I_Term)
noncomputable def zI_Term:I_Term:=⟨0,0,[]⟩
noncomputable def rd_I_Term (xs:List I_Term) (i:Int):I_Term:=xs.getD i.toNat zI_Term
structure A2_i64 where
 f0:Int
 f1:Int
noncomputable def zA2_i64:A2_i64:=⟨0,0⟩
noncomputable def rd_A2_i64 (xs:List A2_i64) (i:Int):A2_i64:=xs.getD i.toNat zA2_i64
structure I_Lit where
 f0:Bool
 f1:I_Term
 f2:I_Term
noncomputable def zI_Lit:I_Lit:=⟨false,⟨0,0,[]⟩,⟨0,0,[]⟩⟩
noncomputable def rd_I_Lit (xs:List I_Lit) (i:Int):I_Lit:=xs.getD i.toNat zI_Lit
structure I_Clause where
 f0:List (I_Lit)
noncomputable def zI_Clause:I_Clause:=⟨[]⟩
noncomputable def rd_I_Clause (xs:List I_Clause) (i:Int):I_Clause:=xs.getD i.toNat zI_Clause
structure I_World where
 f0:Int
 f1:List (List (Int))
noncomputable def zI_World:I_World:=⟨0,[]⟩
noncomputable def rd_I_World (xs:List I_World) (i:Int):I_World:=xs.getD i.toNat zI_World
structure S_l1Cur where
 f0:List (Int)
 f1:Int
 f2:Int
noncomputable def zS_l1Cur:S_l1Cur:=⟨[],0,0⟩
noncomputable def rd_S_l1Cur (xs:List S_l1Cur) (i:Int):S_l1Cur:=xs.getD i.toNat zS_l1Cur
structure TyZ where
 α:Type
 z:α
noncomputable def T0:Nat→TyZ
 | 0=>⟨I_Sym,zI_Sym⟩
 | 1=>⟨I_Term,zI_Term⟩
 | 2=>⟨A2_i64,zA2_i64⟩
 | 3=>⟨I_Lit,zI_Lit⟩
 | 4=>⟨I_Clause,zI_Clause⟩
 | 5=>⟨I_World,zI_World⟩
 | 6=>⟨S_l1Cur,zS_l1Cur⟩
 | _+7=>⟨Unit,()⟩
@[reducible] noncomputable def E_I_Sym:E:=.st 0
@[reducible] noncomputable def E_I_Term:E:=.st 1
@[reducible] noncomputable def E_A2_i64:E:=.st 2
@[reducible] noncomputable def E_I_Lit:E:=.st 3
@[reducible] noncomputable def E_I_Clause:E:=.st 4
@[reducible] noncomputable def E_I_World:E:=.st 5
@[reducible] noncomputable def E_S_l1Cur:E:=.st 6
noncomputable def ST (s:Nat):Type:=(T0 s).α
noncomputable def cellsS:(s:Nat)→ST s→List (Dyn ST)
 | 0=>fun (x:I_Sym)=>[.str x.f0,.int .i64 x.f1,.bool x.f2]
 | 1=>fun (x:I_Term)=>[.int .i64 x.f0,.int .i64 x.f1,.lst (.st 1) x.f2]
 | 2=>fun (x:A2_i64)=>[.int .i64 x.f0,.int .i64 x.f1]
 | 3=>fun (x:I_Lit)=>[.bool x.f0,.int .i64 x.f1.f0,.int .i64 x.f1.f1,.lst (.st 1) x.f1.f2,.int .i64 x.f2.f0,.int .i64 x.f2.f1,.lst (.st 1) x.f2.f2]
 | 4=>fun (x:I_Clause)=>[.lst (.st 3) x.f0]
 | 5=>fun (x:I_World)=>[.int .i64 x.f0,.lst (.lst (.int .i64)) x.f1]
 | 6=>fun (x:S_l1Cur)=>[.lst (.int .u8) x.f0,.int .i64 x.f1,.int .i64 x.f2]
 | _+7=>fun _=>[]
noncomputable def mkS:(s:Nat)→List (Dyn ST)→Option (ST s)
 | 0=>fun l=>match l with | [.str c0,.int .i64 c1,.bool c2]=>some (⟨c0,c1,c2⟩:I_Sym) | _=>none
 | 1=>fun l=>match l with | [.int .i64 c0,.int .i64 c1,c2]=>(match lstD ST (.st 1) c2 with | some d2=>some (⟨c0,c1,d2⟩:I_Term) | none=>none) | _=>none
 | 2=>fun l=>match l with | [.int .i64 c0,.int .i64 c1]=>some (⟨c0,c1⟩:A2_i64) | _=>none
 | 3=>fun l=>match l with | [.bool c0,.int .i64 c1,.int .i64 c2,c3,.int .i64 c4,.int .i64 c5,c6]=>(match lstD ST (.st 1) c3 with | some d3=>(match lstD ST (.st 1) c6 with | some d6=>some (⟨c0,⟨c1,c2,d3⟩,⟨c4,c5,d6⟩⟩:I_Lit) | none=>none) | none=>none) | _=>none
 | 4=>fun l=>match l with | [c0]=>(match lstD ST (.st 3) c0 with | some d0=>some (⟨d0⟩:I_Clause) | none=>none) | _=>none
 | 5=>fun l=>match l with | [.int .i64 c0,c1]=>(match lstD ST (.lst (.int .i64)) c1 with | some d1=>some (⟨c0,d1⟩:I_World) | none=>none) | _=>none
 | 6=>fun l=>match l with | [c0,.int .i64 c1,.int .i64 c2]=>(match lstD ST (.int .u8) c0 with | some d0=>some (⟨d0,c1,c2⟩:S_l1Cur) | none=>none) | _=>none
 | _+7=>fun _=>none
noncomputable def szS_:Nat→Nat
 | 0=>3
 | 1=>3
 | 2=>2
 | 3=>7
 | 4=>1
 | 5=>2
 | 6=>3
 | _+7=>0
noncomputable def etys:List (Nat×E):=[(3,.int .i64),(4,.bool),(5,.int .u8),(9,.str),(23,.lst (.lst (.int .i64))),(33,.lst (.st 0)),(37,.lst (.st 3)),(39,.st 4),(49,.st 5),(53,.lst (.int .u8)),(59,.lst (.int .i64)),(62,.lst (.st 1)),(64,.st 1),(66,.st 3),(124,.st 0),(211,.st 6),(248,.st 2),(249,.lst (.st 2))]
noncomputable def lays:List (Nat×Nat):=[(3,1),(4,1),(5,1),(9,1),(23,1),(33,1),(37,1),(39,3),(49,4),(53,1),(59,1),(62,1),(64,5),(66,9),(124,5),(211,5),(248,4),(249,1)]
noncomputable def flds:List (Nat×List Nat):=[(39,[0]),(49,[0,1]),(64,[0,1,2]),(66,[0,1,4]),(124,[0,1,2]),(211,[0,1,2])]
noncomputable def plcs:List (Nat×List (Nat×Nat)):=[(39,[(0,1)]),(49,[(0,1),(1,1)]),(64,[(0,1),(1,1),(2,1)]),(66,[(0,1),(1,3),(4,3)]),(124,[(0,1),(1,1),(2,1)]),(211,[(0,1),(1,1),(2,1)]),(248,[(0,1),(1,1)])]
noncomputable def eqts:List (Nat×List E):=[(124,[.str,.int .i64,.bool])]
noncomputable def arrs:List Nat:=[248]
@[reducible] noncomputable def maxRow:Nat:=1599289640401
noncomputable def strs:E→Bool:=fun e=>match e with | .int .u8=>false | .int _=>true | _=>true
@[reducible] noncomputable def TT:Tbl:=mkT ST (fun s=>(T0 s).z) cellsS mkS szS_ etys lays flds plcs eqts arrs maxRow strs
theorem cells_len_:(s:Nat)→(x:ST s)→(cellsS s x).length=szS_ s
 | 0,_=>rfl
 | 1,_=>rfl
 | 2,_=>rfl
 | 3,_=>rfl
 | 4,_=>rfl
 | 5,_=>rfl
 | 6,_=>rfl
 | _+7,_=>rfl
theorem mk_cells_:(s:Nat)→(l:List (Dyn ST))→(x:ST s)→mkS s l=some x→DLes (T:=TT) l (cellsS s x)
 | 0,l,x,h=>by
  simp only [mkS] at h
  repeat' (split at h)
  all_goals first | (cases h;done) | (obtain rfl:=Option.some.inj h;repeat' first | exact DLes.nil | refine DLes.cons ?_ ?_ | exact Or.inl rfl | exact lstD_ok (T:=TT) (by assumption))
 | 1,l,x,h=>by
  simp only [mkS] at h
  repeat' (split at h)
  all_goals first | (cases h;done) | (obtain rfl:=Option.some.inj h;repeat' first | exact DLes.nil | refine DLes.cons ?_ ?_ | exact Or.inl rfl | exact lstD_ok (T:=TT) (by assumption))
 | 2,l,x,h=>by
  simp only [mkS] at h
  repeat' (split at h)
  all_goals first | (cases h;done) | (obtain rfl:=Option.some.inj h;repeat' first | exact DLes.nil | refine DLes.cons ?_ ?_ | exact Or.inl rfl | exact lstD_ok (T:=TT) (by assumption))
 | 3,l,x,h=>by
  simp only [mkS] at h
  repeat' (split at h)
  all_goals first | (cases h;done) | (obtain rfl:=Option.some.inj h;repeat' first | exact DLes.nil | refine DLes.cons ?_ ?_ | exact Or.inl rfl | exact lstD_ok (T:=TT) (by assumption))
 | 4,l,x,h=>by
  simp only [mkS] at h
  repeat' (split at h)
  all_goals first | (cases h;done) | (obtain rfl:=Option.some.inj h;repeat' first | exact DLes.nil | refine DLes.cons ?_ ?_ | exact Or.inl rfl | exact lstD_ok (T:=TT) (by assumption))
 | 5,l,x,h=>by
  simp only [mkS] at h
  repeat' (split at h)
  all_goals first | (cases h;done) | (obtain rfl:=Option.some.inj h;repeat' first | exact DLes.nil | refine DLes.cons ?_ ?_ | exact Or.inl rfl | exact lstD_ok (T:=TT) (by assumption))
 | 6,l,x,h=>by
  simp only [mkS] at h
  repeat' (split at h)
  all_goals first | (cases h;done) | (obtain rfl:=Option.some.inj h;repeat' first | exact DLes.nil | refine DLes.cons ?_ ?_ | exact Or.inl rfl | exact lstD_ok (T:=TT) (by assumption))
 | _+7,_,_,h=>by cases h
theorem kin_:(s:Nat)→(x:ST s)→SK (T:=TT) (cellsS s x) (cellsS s (T0 s).z)
 | 0,_=>SK.cons trivial (SK.cons rfl (SK.cons trivial (SK.nil)))
 | 1,_=>SK.cons rfl (SK.cons rfl (SK.cons rfl (SK.nil)))
 | 2,_=>SK.cons rfl (SK.cons rfl (SK.nil))
 | 3,_=>SK.cons trivial (SK.cons rfl (SK.cons rfl (SK.cons rfl (SK.cons rfl (SK.cons rfl (SK.cons rfl (SK.nil)))))))
 | 4,_=>SK.cons rfl (SK.nil)
 | 5,_=>SK.cons rfl (SK.cons rfl (SK.nil))
 | 6,_=>SK.cons rfl (SK.cons rfl (SK.cons rfl (SK.nil)))
 | _+7,_=>SK.nil
theorem mkx_:(s:Nat)→(l:List (Dyn ST))→SK (T:=TT) l (cellsS s (T0 s).z)→∃y,cellsS s y=l
 | 0,l,h0=>by
  obtain ⟨c0,l0,rfl,h1⟩:=SK.str (T:=TT) h0
  obtain ⟨c1,l1,rfl,h2⟩:=SK.int (T:=TT) h1
  obtain ⟨c2,l2,rfl,h3⟩:=SK.bool (T:=TT) h2
  obtain rfl:=SK.inv0 h3
  exact ⟨(⟨c0,c1,c2⟩:I_Sym),rfl⟩
 | 1,l,h0=>by
  obtain ⟨c0,l0,rfl,h1⟩:=SK.int (T:=TT) h0
  obtain ⟨c1,l1,rfl,h2⟩:=SK.int (T:=TT) h1
  obtain ⟨c2,l2,rfl,h3⟩:=SK.lst (T:=TT) h2
  obtain rfl:=SK.inv0 h3
  exact ⟨(⟨c0,c1,c2⟩:I_Term),rfl⟩
 | 2,l,h0=>by
  obtain ⟨c0,l0,rfl,h1⟩:=SK.int (T:=TT) h0
  obtain ⟨c1,l1,rfl,h2⟩:=SK.int (T:=TT) h1
  obtain rfl:=SK.inv0 h2
  exact ⟨(⟨c0,c1⟩:A2_i64),rfl⟩
 | 3,l,h0=>by
  obtain ⟨c0,l0,rfl,h1⟩:=SK.bool (T:=TT) h0
  obtain ⟨c1,l1,rfl,h2⟩:=SK.int (T:=TT) h1
  obtain ⟨c2,l2,rfl,h3⟩:=SK.int (T:=TT) h2
  obtain ⟨c3,l3,rfl,h4⟩:=SK.lst (T:=TT) h3
  obtain ⟨c4,l4,rfl,h5⟩:=SK.int (T:=TT) h4
  obtain ⟨c5,l5,rfl,h6⟩:=SK.int (T:=TT) h5
  obtain ⟨c6,l6,rfl,h7⟩:=SK.lst (T:=TT) h6
  obtain rfl:=SK.inv0 h7
  exact ⟨(⟨c0,⟨c1,c2,c3⟩,⟨c4,c5,c6⟩⟩:I_Lit),rfl⟩
 | 4,l,h0=>by
  obtain ⟨c0,l0,rfl,h1⟩:=SK.lst (T:=TT) h0
  obtain rfl:=SK.inv0 h1
  exact ⟨(⟨c0⟩:I_Clause),rfl⟩
 | 5,l,h0=>by
  obtain ⟨c0,l0,rfl,h1⟩:=SK.int (T:=TT) h0
  obtain ⟨c1,l1,rfl,h2⟩:=SK.lst (T:=TT) h1
  obtain rfl:=SK.inv0 h2
  exact ⟨(⟨c0,c1⟩:I_World),rfl⟩
 | 6,l,h0=>by
  obtain ⟨c0,l0,rfl,h1⟩:=SK.lst (T:=TT) h0
  obtain ⟨c1,l1,rfl,h2⟩:=SK.int (T:=TT) h1
  obtain ⟨c2,l2,rfl,h3⟩:=SK.int (T:=TT) h2
  obtain rfl:=SK.inv0 h3
  exact ⟨(⟨c0,c1,c2⟩:S_l1Cur),rfl⟩
 | _+7,l,h=>⟨(),(SK.inv0 h).symm⟩
theorem tbl:TblOk Tryz.prog TT:=tbl_ok (by kernel_rfl) (by kernel_rfl) (by kernel_rfl) (by kernel_rfl) (by kernel_rfl) (by kernel_rfl) cells_len_ mk_cells_ kin_ mkx_
theorem mixed:Tryz.prog.follows .mixedOrders=true:=by kernel_rfl
noncomputable def impl_from.f (a0:Int) (a1:Int) (a2:Int):Option (Bool):=if a0≥a1 then (some (decide (a0≤a2))) else (some false)
@[reducible] noncomputable def impl_from.us:List (CutU TT (TupT ST [.bool])):=[]
noncomputable def impl_from.ent:Ent TT:=⟨132,[.one,.one,.one],[.int .i64,.int .i64,.int .i64],.one,[.bool],fun x=>impl_from.f x.1 x.2.1 x.2.2⟩
noncomputable def impl_from.ents (k:Nat):Ents TT:=⟨[],[],[]⟩
theorem impl_from.chk (k:Nat) (x:TupT ST [.int .i64,.int .i64,.int .i64]):runU TT (calF [] (impl_from.ents k)) (jmps impl_from.us k) (finK Tryz.f132 (retK TT (.one) [.bool])) Tryz.f132 none (canon (args0 0 (argL [.one,.one,.one] [.int .i64,.int .i64,.int .i64] x)) [])=impl_from.f x.1 x.2.1 x.2.2:=by kernel_rfl
theorem impl_from.ok:EntOk Tryz.prog TT (impl_from.ent):=
 fun_of tbl mixed 132 Tryz.f132 Tryz.func132 rfl (by kernel_rfl) [.one,.one,.one] [.int .i64,.int .i64,.int .i64] (.one) [.bool] (by kernel_rfl) [] impl_from.ents impl_from.us True.intro True.intro (fun k (x:TupT ST [.int .i64,.int .i64,.int .i64])=>impl_from.f x.1 x.2.1 x.2.2) impl_from.chk (fun k=>EntsOk.mk True.intro True.intro True.intro) 0
noncomputable def fQ82.f (a0:Int):Option (Bool):=if a0≥97 then (some (decide (a0≤122))) else (some false)
@[reducible] noncomputable def fQ82.us:List (CutU TT (TupT ST [.bool])):=[]
noncomputable def fQ82.ent:Ent TT:=⟨284,[.one],[.int .u8],.one,[.bool],fun x=>fQ82.f x⟩
noncomputable def fQ82.ents (k:Nat):Ents TT:=⟨[],[],[]⟩
theorem fQ82.chk (k:Nat) (x:TupT ST [.int .u8]):runU TT (calF [] (fQ82.ents k)) (jmps fQ82.us k) (finK Tryz.f284 (retK TT (.one) [.bool])) Tryz.f284 none (canon (args0 0 (argL [.one] [.int .u8] x)) [])=fQ82.f x:=by kernel_rfl
theorem fQ82.ok:EntOk Tryz.prog TT (fQ82.ent):=
 fun_of tbl mixed 284 Tryz.f284 Tryz.func284 rfl (by kernel_rfl) [.one] [.int .u8] (.one) [.bool] (by kernel_rfl) [] fQ82.ents fQ82.us True.intro True.intro (fun k (x:TupT ST [.int .u8])=>fQ82.f x) fQ82.chk (fun k=>EntsOk.mk True.intro True.intro True.intro) 0
noncomputable def fQ86.f (a0:Int):Option (Bool):=if a0≥48 then (some (decide (a0≤57))) else (some false)
@[reducible] noncomputable def fQ86.us:List (CutU TT (TupT ST [.bool])):=[]
noncomputable def fQ86.ent:Ent TT:=⟨285,[.one],[.int .u8],.one,[.bool],fun x=>fQ86.f x⟩
noncomputable def fQ86.ents (k:Nat):Ents TT:=⟨[],[],[]⟩
theorem fQ86.chk (k:Nat) (x:TupT ST [.int .u8]):runU TT (calF [] (fQ86.ents k)) (jmps fQ86.us k) (finK Tryz.f285 (retK TT (.one) [.bool])) Tryz.f285 none (canon (args0 0 (argL [.one] [.int .u8] x)) [])=fQ86.f x:=by kernel_rfl
theorem fQ86.ok:EntOk Tryz.prog TT (fQ86.ent):=
 fun_of tbl mixed 285 Tryz.f285 Tryz.func285 rfl (by kernel_rfl) [.one] [.int .u8] (.one) [.bool] (by kernel_rfl) [] fQ86.ents fQ86.us True.intro True.intro (fun k (x:TupT ST [.int .u8])=>fQ86.f x) fQ86.chk (fun k=>EntsOk.mk True.intro True.intro True.intro) 0
noncomputable def fQ57.l0:Nat→ByteArray→Int→Int→Option (Bool)
 | 0,_,_,_=>none
 | k+1,x0,x5,x6=>if x6<x5 then (if 0≤x6 then (if x6<(x0.size:Int) then ((fQ82.f (bt x0 x6)).bind fun t1=>(if t1=true then (fQ57.l0 k x0 x5 (wrap64 (x6+1))) else ((fQ86.f (bt x0 x6)).bind fun t2=>(if t2=true then (fQ57.l0 k x0 x5 (wrap64 (x6+1))) else (some false))))) else none) else none) else ((impl_from.f (x0.size:Int) 1 8).bind fun t3=>(if t3=true then (if 0<(x0.size:Int) then ((fQ82.f (bt x0 0)).bind fun t4=>(some t4)) else none) else (some false)))
noncomputable def fQ57.f (k:Nat) (a0:ByteArray):Option (Bool):=fQ57.l0 k a0 (a0.size:Int) 0
noncomputable def fQ57.l0.c:Cut:=⟨[],[],[(0,.one),(5,.one),(6,.one)],[],[],[.str,.int .i64,.int .i64]⟩
@[reducible] noncomputable def fQ57.us:List (CutU TT (TupT ST [.bool])):=[⟨2,fQ57.l0.c,fun k x=>fQ57.l0 k x.1 x.2.1 x.2.2⟩]
noncomputable def fQ57.ent (k:Nat):Ent TT:=⟨245,[.one],[.str],.one,[.bool],fun x=>fQ57.f k x⟩
noncomputable def fQ57.ents (k:Nat):Ents TT:=⟨[fQ82.ent,fQ86.ent,impl_from.ent],[],[]⟩
noncomputable def fQ57.l0.raw (k:Nat) (x0:ByteArray) (x5:Int) (x6:Int):Option (Bool):=if x6<x5 then (if 0≤x6 then (if x6<(x0.size:Int) then ((fQ82.f (bt x0 x6)).bind fun t1=>(if (!t1)=true then (if 0≤x6 then (if x6<(x0.size:Int) then ((fQ86.f (bt x0 x6)).bind fun t2=>(if (!t2)=true then (some false) else (fQ57.l0 k x0 x5 (wr .i64 (x6+1))))) else none) else none) else (fQ57.l0 k x0 x5 (wr .i64 (x6+1))))) else none) else none) else ((impl_from.f (x0.size:Int) 1 8).bind fun t3=>(if t3=true then (if (0:Int)≤0 then (if 0<(x0.size:Int) then ((fQ82.f (bt x0 0)).bind fun t4=>(some t4)) else none) else none) else (some false)))
theorem fQ57.l0.clean (k:Nat) (x0:ByteArray) (x5:Int) (x6:Int):fQ57.l0.raw k x0 x5 x6=fQ57.l0 (k+1) x0 x5 x6:=by
 rw [fQ57.l0.raw,fQ57.l0]
 simp only [wr_i64]
 exact ite_congr rfl (fun h0=>ite_congr rfl (fun h1=>ite_congr rfl (fun h2=>bind_cg fun t1=>(Eq.trans (ite_nb _ _ _) (ite_congr rfl (fun h3=>rfl) (fun h3=>Eq.trans (if_pos h1) (Eq.trans (if_pos h2) (bind_cg fun t2=>(ite_nb _ _ _))))))) (fun h2=>rfl)) (fun h1=>rfl)) (fun h0=>bind_cg fun t3=>(ite_congr rfl (fun h1=>if_pos (by decide)) (fun h1=>rfl)))
theorem fQ57.l0.chk (k:Nat) (x:TupT ST [.str,.int .i64,.int .i64]):runU TT (calF [] (fQ57.ents k)) (jmps fQ57.us k) (finK Tryz.f245 (retK TT (.one) [.bool])) Tryz.f245 (some 2) (canonC fQ57.l0.c x)=fQ57.l0 (k+1) x.1 x.2.1 x.2.2:=Eq.trans (show _=fQ57.l0.raw k x.1 x.2.1 x.2.2 by kernel_rfl) (fQ57.l0.clean k x.1 x.2.1 x.2.2)
theorem fQ57.chk (k:Nat) (x:TupT ST [.str]):runU TT (calF [] (fQ57.ents k)) (jmps fQ57.us k) (finK Tryz.f245 (retK TT (.one) [.bool])) Tryz.f245 none (canon (args0 0 (argL [.one] [.str] x)) [])=fQ57.f k x:=by kernel_rfl
theorem fQ57.ok (k:Nat):EntOk Tryz.prog TT (fQ57.ent k):=
 fun_of tbl mixed 245 Tryz.f245 Tryz.func245 rfl (by kernel_rfl) [.one] [.str] (.one) [.bool] (by kernel_rfl) [] fQ57.ents fQ57.us (And.intro (fun _=>rfl) True.intro) (And.intro fQ57.l0.chk True.intro) (fun k (x:TupT ST [.str])=>fQ57.f k x) fQ57.chk (fun k=>EntsOk.mk (And.intro fQ82.ok (And.intro fQ86.ok (And.intro impl_from.ok True.intro))) True.intro True.intro) k
noncomputable def fQ63.f (a0_0:ByteArray) (a0_1:Int) (a0_2:Bool) (c0_0:ByteArray):Option (Bool×ByteArray):=some (decide (a0_0=c0_0),c0_0)
noncomputable def fQ63.pin:Cut:=⟨[],[],[(0,.agg [.one,.one,.one]),(1,.ptr 1073741824 0)],[(1073741824,[.one])],[],[.str,.int .i64,.bool,.str]⟩
noncomputable def fQ63.pout:Cut:=⟨[],[],[(3,.one)],[(1073741824,[.one])],[],[.bool,.str]⟩
@[reducible] noncomputable def fQ63.us:List (CutU TT (TupT ST fQ63.pout.es)):=[]
noncomputable def fQ63.ent:Ent2 TT:=⟨287,2,fQ63.pin,fQ63.pout,Tryz.f287.results.toList,fun x=>fQ63.f x.1 x.2.1 x.2.2.1 x.2.2.2⟩
noncomputable def fQ63.ents (k:Nat):Ents TT:=⟨[],[],[]⟩
theorem fQ63.chk (k:Nat) (x:TupT ST fQ63.pin.es):runU TT (calF [] (fQ63.ents k)) (jmps fQ63.us k) (finC fQ63.pout Tryz.f287.results.toList) Tryz.f287 none (canonC fQ63.pin x)=fQ63.f x.1 x.2.1 x.2.2.1 x.2.2.2:=by kernel_rfl
theorem fQ63.ok:Ent2Ok Tryz.prog TT (fQ63.ent):=
 fun_of2 tbl mixed 287 Tryz.f287 Tryz.func287 rfl (by kernel_rfl) 2 fQ63.pin fQ63.pout (by kernel_rfl) [] fQ63.ents fQ63.us True.intro True.intro (fun k (x:TupT ST fQ63.pin.es)=>fQ63.f x.1 x.2.1 x.2.2.1 x.2.2.2) fQ63.chk (fun k=>EntsOk.mk True.intro True.intro True.intro) 0
noncomputable def fQ1.l0:Nat→List (I_Sym)→Int→Int→ByteArray→Option (Int×ByteArray)
 | 0,_,_,_,_=>none
 | k+1,x0,x7,x8,b1073741824_0=>if x8<x7 then (if 0≤x8 then (if x8<(x0.length:Int) then ((fQ63.f ((rd_I_Sym x0 x8).f0) ((rd_I_Sym x0 x8).f1) ((rd_I_Sym x0 x8).f2) b1073741824_0).bind fun t1=>(if t1.1=true then (some (x8,t1.2)) else (fQ1.l0 k x0 x7 (wrap64 (x8+1)) t1.2))) else none) else none) else (some ((-1),b1073741824_0))
noncomputable def fQ1.f (k:Nat) (l0:List (I_Sym)) (c0_0:ByteArray):Option (Int×ByteArray):=fQ1.l0 k l0 (l0.length:Int) 0 c0_0
noncomputable def fQ1.pin:Cut:=⟨[0],[],[(0,.one),(1,.clo 287 [.ptr 1073741824 0])],[(1073741824,[.one])],[],[.lst (.st 0),.str]⟩
noncomputable def fQ1.pout:Cut:=⟨[],[],[(4,.one)],[(1073741824,[.one])],[],[.int .i64,.str]⟩
noncomputable def fQ1.l0.c:Cut:=⟨[0],[],[(0,.one),(1,.clo 287 [.ptr 1073741824 0]),(7,.one),(8,.one)],[(1073741824,[.one])],[],[.lst (.st 0),.int .i64,.int .i64,.str]⟩
@[reducible] noncomputable def fQ1.us:List (CutU TT (TupT ST fQ1.pout.es)):=[⟨2,fQ1.l0.c,fun k x=>fQ1.l0 k x.1 x.2.1 x.2.2.1 x.2.2.2⟩]
noncomputable def fQ1.ent (k:Nat):Ent2 TT:=⟨286,2,fQ1.pin,fQ1.pout,Tryz.f286.results.toList,fun x=>fQ1.f k x.1 x.2⟩
noncomputable def fQ1.ents (k:Nat):Ents TT:=⟨[],[fQ63.ent],[]⟩
noncomputable def fQ1.l0.raw (k:Nat) (x0:List (I_Sym)) (x7:Int) (x8:Int) (b1073741824_0:ByteArray):Option (Int×ByteArray):=if x8<x7 then (if 0≤x8 then (if x8<(x0.length:Int) then ((fQ63.f ((rd_I_Sym x0 x8).f0) ((rd_I_Sym x0 x8).f1) ((rd_I_Sym x0 x8).f2) b1073741824_0).bind fun t1=>(if t1.1=true then (some (x8,t1.2)) else (fQ1.l0 k x0 x7 (wr .i64 (x8+1)) t1.2))) else none) else none) else (some ((-1),b1073741824_0))
theorem fQ1.l0.clean (k:Nat) (x0:List (I_Sym)) (x7:Int) (x8:Int) (b1073741824_0:ByteArray):fQ1.l0.raw k x0 x7 x8 b1073741824_0=fQ1.l0 (k+1) x0 x7 x8 b1073741824_0:=by
 rw [fQ1.l0.raw,fQ1.l0]
 simp only [wr_i64]
theorem fQ1.l0.chk (k:Nat) (x:TupT ST [.lst (.st 0),.int .i64,.int .i64,.str]):runU TT (calF [] (fQ1.ents k)) (jmps fQ1.us k) (finC fQ1.pout Tryz.f286.results.toList) Tryz.f286 (some 2) (canonC fQ1.l0.c x)=fQ1.l0 (k+1) x.1 x.2.1 x.2.2.1 x.2.2.2:=Eq.trans (show _=fQ1.l0.raw k x.1 x.2.1 x.2.2.1 x.2.2.2 by kernel_rfl) (fQ1.l0.clean k x.1 x.2.1 x.2.2.1 x.2.2.2)
theorem fQ1.chk (k:Nat) (x:TupT ST fQ1.pin.es):runU TT (calF [] (fQ1.ents k)) (jmps fQ1.us k) (finC fQ1.pout Tryz.f286.results.toList) Tryz.f286 none (canonC fQ1.pin x)=fQ1.f k x.1 x.2:=by kernel_rfl
theorem fQ1.ok (k:Nat):Ent2Ok Tryz.prog TT (fQ1.ent k):=
 fun_of2 tbl mixed 286 Tryz.f286 Tryz.func286 rfl (by kernel_rfl) 2 fQ1.pin fQ1.pout (by kernel_rfl) [] fQ1.ents fQ1.us (And.intro (fun _=>rfl) True.intro) (And.intro fQ1.l0.chk True.intro) (fun k (x:TupT ST fQ1.pin.es)=>fQ1.f k x.1 x.2) fQ1.chk (fun k=>EntsOk.mk True.intro (And.intro fQ63.ok True.intro) True.intro) k
noncomputable def fQ90.f (k:Nat) (l0:List (I_Sym)) (a1:ByteArray):Option (Int):=(fQ1.f k l0 a1).bind fun t1=>(some t1.1)
@[reducible] noncomputable def fQ90.us:List (CutU TT (TupT ST [.int .i64])):=[]
noncomputable def fQ90.ent (k:Nat):Ent TT:=⟨246,[.one,.one],[.lst (.st 0),.str],.one,[.int .i64],fun x=>fQ90.f k x.1 x.2⟩
noncomputable def fQ90.ents (k:Nat):Ents TT:=⟨[],[fQ1.ent k],[]⟩
theorem fQ90.chk (k:Nat) (x:TupT ST [.lst (.st 0),.str]):runU TT (calF [] (fQ90.ents k)) (jmps fQ90.us k) (finK Tryz.f246 (retK TT (.one) [.int .i64])) Tryz.f246 none (canon (args0 0 (argL [.one,.one] [.lst (.st 0),.str] x)) [])=fQ90.f k x.1 x.2:=by kernel_rfl
theorem fQ90.ok (k:Nat):EntOk Tryz.prog TT (fQ90.ent k):=
 fun_of tbl mixed 246 Tryz.f246 Tryz.func246 rfl (by kernel_rfl) [.one,.one] [.lst (.st 0),.str] (.one) [.int .i64] (by kernel_rfl) [] fQ90.ents fQ90.us True.intro True.intro (fun k (x:TupT ST [.lst (.st 0),.str])=>fQ90.f k x.1 x.2) fQ90.chk (fun k=>EntsOk.mk True.intro (And.intro (fQ1.ok k) True.intro) True.intro) k
noncomputable def fQ58.l0:Nat→List (I_Sym)→List (I_Sym)→Int→Int→Option (Bool)
 | 0,_,_,_,_=>none
 | k+1,x0,x5,x6,x7=>if x7<x6 then (if 0≤x7 then (if x7<(x5.length:Int) then ((fQ57.f k ((rd_I_Sym x5 x7).f0)).bind fun t1=>(if t1=true then ((fQ90.f k x0 ((rd_I_Sym x5 x7).f0)).bind fun t2=>(if t2=x7 then ((impl_from.f ((rd_I_Sym x5 x7).f1) 0 3).bind fun t3=>(if t3=true then (if ((rd_I_Sym x5 x7).f2)=true then (if ((rd_I_Sym x5 x7).f1)=2 then (fQ58.l0 k x0 x5 x6 (wrap64 (x7+1))) else (some false)) else (fQ58.l0 k x0 x5 x6 (wrap64 (x7+1)))) else (some false))) else (some false))) else (some false))) else none) else none) else ((impl_from.f (x0.length:Int) 1 8).bind fun t4=>(if t4=true then (if 0<(x0.length:Int) then (if ((rd_I_Sym x0 0).f0)=(⟨#[116,116]⟩:ByteArray) then (some (decide (((rd_I_Sym x0 0).f1)=0))) else (some false)) else none) else (some false)))
noncomputable def fQ58.f (k:Nat) (l0:List (I_Sym)):Option (Bool):=fQ58.l0 k l0 l0 (l0.length:Int) 0
noncomputable def fQ58.l0.c:Cut:=⟨[0,5],[],[(0,.one),(5,.one),(6,.one),(7,.one)],[],[],[.lst (.st 0),.lst (.st 0),.int .i64,.int .i64]⟩
@[reducible] noncomputable def fQ58.us:List (CutU TT (TupT ST [.bool])):=[⟨2,fQ58.l0.c,fun k x=>fQ58.l0 k x.1 x.2.1 x.2.2.1 x.2.2.2⟩]
noncomputable def fQ58.ent (k:Nat):Ent TT:=⟨131,[.one],[.lst (.st 0)],.one,[.bool],fun x=>fQ58.f k x⟩
noncomputable def fQ58.ents (k:Nat):Ents TT:=⟨[fQ57.ent k,fQ90.ent k,impl_from.ent],[],[]⟩
noncomputable def fQ58.l0.raw (k:Nat) (x0:List (I_Sym)) (x5:List (I_Sym)) (x6:Int) (x7:Int):Option (Bool):=if x7<x6 then (if 0≤x7 then (if x7<(x5.length:Int) then ((fQ57.f k ((rd_I_Sym x5 x7).f0)).bind fun t1=>(if (!t1)=true then (some false) else ((fQ90.f k x0 ((rd_I_Sym x5 x7).f0)).bind fun t2=>(if ¬t2=x7 then (some false) else ((impl_from.f ((rd_I_Sym x5 x7).f1) 0 3).bind fun t3=>(if (!t3)=true then (some false) else (if ((rd_I_Sym x5 x7).f2)=true then (if ¬((rd_I_Sym x5 x7).f1)=2 then (some false) else (fQ58.l0 k x0 x5 x6 (wr .i64 (x7+1)))) else (fQ58.l0 k x0 x5 x6 (wr .i64 (x7+1)))))))))) else none) else none) else ((impl_from.f (x0.length:Int) 1 8).bind fun t4=>(if t4=true then (if (0:Int)≤0 then (if 0<(x0.length:Int) then (if ((rd_I_Sym x0 0).f0)=(⟨#[116,116]⟩:ByteArray) then (if (0:Int)≤0 then (if 0<(x0.length:Int) then (some (decide (((rd_I_Sym x0 0).f1)=0))) else none) else none) else (some false)) else none) else none) else (some false)))
theorem fQ58.l0.clean (k:Nat) (x0:List (I_Sym)) (x5:List (I_Sym)) (x6:Int) (x7:Int):fQ58.l0.raw k x0 x5 x6 x7=fQ58.l0 (k+1) x0 x5 x6 x7:=by
 rw [fQ58.l0.raw,fQ58.l0]
 simp only [wr_i64]
 exact ite_congr rfl (fun h0=>ite_congr rfl (fun h1=>ite_congr rfl (fun h2=>bind_cg fun t1=>(Eq.trans (ite_nb _ _ _) (ite_congr rfl (fun h3=>bind_cg fun t2=>(Eq.trans (ite_ng _ _) (ite_congr rfl (fun h4=>bind_cg fun t3=>(Eq.trans (ite_nb _ _ _) (ite_congr rfl (fun h5=>ite_congr rfl (fun h6=>ite_ng _ _) (fun h6=>rfl)) (fun h5=>rfl)))) (fun h4=>rfl)))) (fun h3=>rfl)))) (fun h2=>rfl)) (fun h1=>rfl)) (fun h0=>bind_cg fun t4=>(ite_congr rfl (fun h1=>Eq.trans (if_pos (by decide)) (ite_congr rfl (fun h2=>ite_congr rfl (fun h3=>Eq.trans (if_pos (by decide)) (if_pos h2)) (fun h3=>rfl)) (fun h2=>rfl))) (fun h1=>rfl)))
theorem fQ58.l0.chk (k:Nat) (x:TupT ST [.lst (.st 0),.lst (.st 0),.int .i64,.int .i64]):runU TT (calF [] (fQ58.ents k)) (jmps fQ58.us k) (finK Tryz.f131 (retK TT (.one) [.bool])) Tryz.f131 (some 2) (canonC fQ58.l0.c x)=fQ58.l0 (k+1) x.1 x.2.1 x.2.2.1 x.2.2.2:=Eq.trans (show _=fQ58.l0.raw k x.1 x.2.1 x.2.2.1 x.2.2.2 by kernel_rfl) (fQ58.l0.clean k x.1 x.2.1 x.2.2.1 x.2.2.2)
theorem fQ58.chk (k:Nat) (x:TupT ST [.lst (.st 0)]):runU TT (calF [] (fQ58.ents k)) (jmps fQ58.us k) (finK Tryz.f131 (retK TT (.one) [.bool])) Tryz.f131 none (canon (args0 0 (argL [.one] [.lst (.st 0)] x)) [])=fQ58.f k x:=by kernel_rfl
theorem fQ58.ok (k:Nat):EntOk Tryz.prog TT (fQ58.ent k):=
 fun_of tbl mixed 131 Tryz.f131 Tryz.func131 rfl (by kernel_rfl) [.one] [.lst (.st 0)] (.one) [.bool] (by kernel_rfl) [] fQ58.ents fQ58.us (And.intro (fun _=>rfl) True.intro) (And.intro fQ58.l0.chk True.intro) (fun k (x:TupT ST [.lst (.st 0)])=>fQ58.f k x) fQ58.chk (fun k=>EntsOk.mk (And.intro (fQ57.ok k) (And.intro (fQ90.ok k) (And.intro impl_from.ok True.intro))) True.intro True.intro) k
noncomputable def fQ55.f (a0_0:Int) (a0_1:Int) (a0_2:List (I_Term)) (c0_0:Int):Option (Int):=some (wrap64 (c0_0+1))
noncomputable def fQ55.pin:Cut:=⟨[],[],[(0,.agg [.one,.one,.one]),(1,.ptr 1073741824 0)],[(1073741824,[.one])],[],[.int .i64,.int .i64,.lst (.st 1),.int .i64]⟩
noncomputable def fQ55.pout:Cut:=⟨[],[],[],[(1073741824,[.one])],[],[.int .i64]⟩
@[reducible] noncomputable def fQ55.us:List (CutU TT (TupT ST fQ55.pout.es)):=[]
noncomputable def fQ55.ent:Ent2 TT:=⟨275,2,fQ55.pin,fQ55.pout,Tryz.f275.results.toList,fun x=>fQ55.f x.1 x.2.1 x.2.2.1 x.2.2.2⟩
noncomputable def fQ55.ents (k:Nat):Ents TT:=⟨[],[],[]⟩
noncomputable def fQ55.raw (k:Nat) (a0_0:Int) (a0_1:Int) (a0_2:List (I_Term)) (c0_0:Int):Option (Int):=some (wr .i64 (c0_0+1))
theorem fQ55.clean (k:Nat) (a0_0:Int) (a0_1:Int) (a0_2:List (I_Term)) (c0_0:Int):fQ55.raw k a0_0 a0_1 a0_2 c0_0=fQ55.f a0_0 a0_1 a0_2 c0_0:=by
 rw [fQ55.raw,fQ55.f]
 simp only [wr_i64]
theorem fQ55.chk (k:Nat) (x:TupT ST fQ55.pin.es):runU TT (calF [] (fQ55.ents k)) (jmps fQ55.us k) (finC fQ55.pout Tryz.f275.results.toList) Tryz.f275 none (canonC fQ55.pin x)=fQ55.f x.1 x.2.1 x.2.2.1 x.2.2.2:=Eq.trans (show _=fQ55.raw k x.1 x.2.1 x.2.2.1 x.2.2.2 by kernel_rfl) (fQ55.clean k x.1 x.2.1 x.2.2.1 x.2.2.2)
theorem fQ55.ok:Ent2Ok Tryz.prog TT (fQ55.ent):=
 fun_of2 tbl mixed 275 Tryz.f275 Tryz.func275 rfl (by kernel_rfl) 2 fQ55.pin fQ55.pout (by kernel_rfl) [] fQ55.ents fQ55.us True.intro True.intro (fun k (x:TupT ST fQ55.pin.es)=>fQ55.f x.1 x.2.1 x.2.2.1 x.2.2.2) fQ55.chk (fun k=>EntsOk.mk True.intro True.intro True.intro) 0
mutual
noncomputable def fQ11.l0:Nat→List (I_Term)→Int→Int→Int→Option (Int)
 | 0,_,_,_,_=>none
 | k+1,x10,x11,x12,b1073741824_0=>if x12<x11 then (if 0≤x12 then (if x12<(x10.length:Int) then ((fQ11.f k ((rd_I_Term x10 x12).f0) ((rd_I_Term x10 x12).f1) ((rd_I_Term x10 x12).f2) b1073741824_0).bind fun t2=>(fQ11.l0 k x10 x11 (wrap64 (x12+1)) t2)) else none) else none) else (some b1073741824_0)
noncomputable def fQ11.f:Nat→Int→Int→List (I_Term)→Int→Option (Int)
 | 0,_,_,_,_=>none
 | k+1,a0_0,a0_1,a0_2,c0_0=>(fQ55.f a0_0 a0_1 a0_2 c0_0).bind fun t1=>(fQ11.l0 k a0_2 (a0_2.length:Int) 0 t1)
end
noncomputable def fQ11.pin:Cut:=⟨[],[],[(0,.agg [.one,.one,.one]),(1,.clo 275 [.ptr 1073741824 0])],[(1073741824,[.one])],[],[.int .i64,.int .i64,.lst (.st 1),.int .i64]⟩
noncomputable def fQ11.pout:Cut:=⟨[],[],[],[(1073741824,[.one])],[],[.int .i64]⟩
noncomputable def fQ11.ent (k:Nat):Ent2 TT:=⟨229,2,fQ11.pin,fQ11.pout,Tryz.f229.results.toList,fun x=>fQ11.f k x.1 x.2.1 x.2.2.1 x.2.2.2⟩
noncomputable def fQ11.l0.c:Cut:=⟨[10],[],[(1,.clo 275 [.ptr 1073741824 0]),(10,.one),(11,.one),(12,.one)],[(1073741824,[.one])],[],[.lst (.st 1),.int .i64,.int .i64,.int .i64]⟩
@[reducible] noncomputable def fQ11.us:List (CutU TT (TupT ST fQ11.pout.es)):=[⟨3,fQ11.l0.c,fun k x=>fQ11.l0 k x.1 x.2.1 x.2.2.1 x.2.2.2⟩]
noncomputable def fQ11.ents (k:Nat):Ents TT:=⟨[],[fQ55.ent,fQ11.ent k],[]⟩
noncomputable def fQ11.l0.raw (k:Nat) (x10:List (I_Term)) (x11:Int) (x12:Int) (b1073741824_0:Int):Option (Int):=if x12<x11 then (if 0≤x12 then (if x12<(x10.length:Int) then ((fQ11.f k ((rd_I_Term x10 x12).f0) ((rd_I_Term x10 x12).f1) ((rd_I_Term x10 x12).f2) b1073741824_0).bind fun t2=>(fQ11.l0 k x10 x11 (wr .i64 (x12+1)) t2)) else none) else none) else (some b1073741824_0)
theorem fQ11.l0.clean (k:Nat) (x10:List (I_Term)) (x11:Int) (x12:Int) (b1073741824_0:Int):fQ11.l0.raw k x10 x11 x12 b1073741824_0=fQ11.l0 (k+1) x10 x11 x12 b1073741824_0:=by
 rw [fQ11.l0.raw,fQ11.l0]
 simp only [wr_i64]
theorem fQ11.l0.chk (k:Nat) (x:TupT ST [.lst (.st 1),.int .i64,.int .i64,.int .i64]):runU TT (calF [] (fQ11.ents k)) (jmps fQ11.us k) (finC fQ11.pout Tryz.f229.results.toList) Tryz.f229 (some 3) (canonC fQ11.l0.c x)=fQ11.l0 (k+1) x.1 x.2.1 x.2.2.1 x.2.2.2:=Eq.trans (show _=fQ11.l0.raw k x.1 x.2.1 x.2.2.1 x.2.2.2 by kernel_rfl) (fQ11.l0.clean k x.1 x.2.1 x.2.2.1 x.2.2.2)
theorem fQ11.chk (k:Nat) (x:TupT ST fQ11.pin.es):runU TT (calF [] (fQ11.ents k)) (jmps fQ11.us k) (finC fQ11.pout Tryz.f229.results.toList) Tryz.f229 none (canonC fQ11.pin x)=fQ11.f (k+1) x.1 x.2.1 x.2.2.1 x.2.2.2:=by kernel_rfl
theorem fQ11.grp:∀k:Nat,EachU (EntOk Tryz.prog TT) []∧EachU (Ent2Ok Tryz.prog TT) [fQ11.ent k]:=by
 intro k
 induction k using Nat.strongRecOn with
 | ind k ih=>
  exact And.intro True.intro (And.intro (fun_in2 tbl mixed 229 Tryz.f229 Tryz.func229 rfl (by kernel_rfl) 2 fQ11.pin fQ11.pout (by kernel_rfl) [] fQ11.ents fQ11.us (And.intro (fun _=>rfl) True.intro) (And.intro fQ11.l0.chk True.intro) (fun k (x:TupT ST fQ11.pin.es)=>fQ11.f k x.1 x.2.1 x.2.2.1 x.2.2.2) (fun _=>rfl) fQ11.chk k (fun j h=>EntsOk.mk True.intro (And.intro fQ55.ok (And.intro (ih j h).2.1 True.intro)) True.intro)) True.intro)
theorem fQ11.ok (k:Nat):Ent2Ok Tryz.prog TT (fQ11.ent k):=(fQ11.grp k).2.1
noncomputable def fQ95.f (k:Nat) (a0_0:Int) (a0_1:Int) (l0_2:List (I_Term)):Option (Int):=(fQ11.f k a0_0 a0_1 l0_2 0).bind fun t1=>(some t1)
@[reducible] noncomputable def fQ95.us:List (CutU TT (TupT ST [.int .i64])):=[]
noncomputable def fQ95.ent (k:Nat):Ent TT:=⟨212,[.agg 3],[.int .i64,.int .i64,.lst (.st 1)],.one,[.int .i64],fun x=>fQ95.f k x.1 x.2.1 x.2.2⟩
noncomputable def fQ95.ents (k:Nat):Ents TT:=⟨[],[fQ11.ent k],[]⟩
theorem fQ95.chk (k:Nat) (x:TupT ST [.int .i64,.int .i64,.lst (.st 1)]):runU TT (calF [] (fQ95.ents k)) (jmps fQ95.us k) (finK Tryz.f212 (retK TT (.one) [.int .i64])) Tryz.f212 none (canon (args0 0 (argL [.agg 3] [.int .i64,.int .i64,.lst (.st 1)] x)) [])=fQ95.f k x.1 x.2.1 x.2.2:=by kernel_rfl
theorem fQ95.ok (k:Nat):EntOk Tryz.prog TT (fQ95.ent k):=
 fun_of tbl mixed 212 Tryz.f212 Tryz.func212 rfl (by kernel_rfl) [.agg 3] [.int .i64,.int .i64,.lst (.st 1)] (.one) [.int .i64] (by kernel_rfl) [] fQ95.ents fQ95.us True.intro True.intro (fun k (x:TupT ST [.int .i64,.int .i64,.lst (.st 1)])=>fQ95.f k x.1 x.2.1 x.2.2) fQ95.chk (fun k=>EntsOk.mk True.intro (And.intro (fQ11.ok k) True.intro) True.intro) k
noncomputable def fQ81.f (a0_0:Int) (a0_1:Int) (l0_2:List (I_Term)):Option (Bool):=some (decide (a0_0=(-1)))
@[reducible] noncomputable def fQ81.us:List (CutU TT (TupT ST [.bool])):=[]
noncomputable def fQ81.ent:Ent TT:=⟨201,[.agg 3],[.int .i64,.int .i64,.lst (.st 1)],.one,[.bool],fun x=>fQ81.f x.1 x.2.1 x.2.2⟩
noncomputable def fQ81.ents (k:Nat):Ents TT:=⟨[],[],[]⟩
theorem fQ81.chk (k:Nat) (x:TupT ST [.int .i64,.int .i64,.lst (.st 1)]):runU TT (calF [] (fQ81.ents k)) (jmps fQ81.us k) (finK Tryz.f201 (retK TT (.one) [.bool])) Tryz.f201 none (canon (args0 0 (argL [.agg 3] [.int .i64,.int .i64,.lst (.st 1)] x)) [])=fQ81.f x.1 x.2.1 x.2.2:=by kernel_rfl
theorem fQ81.ok:EntOk Tryz.prog TT (fQ81.ent):=
 fun_of tbl mixed 201 Tryz.f201 Tryz.func201 rfl (by kernel_rfl) [.agg 3] [.int .i64,.int .i64,.lst (.st 1)] (.one) [.bool] (by kernel_rfl) [] fQ81.ents fQ81.us True.intro True.intro (fun k (x:TupT ST [.int .i64,.int .i64,.lst (.st 1)])=>fQ81.f x.1 x.2.1 x.2.2) fQ81.chk (fun k=>EntsOk.mk True.intro True.intro True.intro) 0
mutual
noncomputable def fQ21.l0:Nat→List (A2_i64)→Int→Int→Int→Int→List (I_Term)→Int→Int→List (I_Term)→Option (Int)
 | 0,_,_,_,_,_,_,_,_,_=>none
 | k+1,x26,x27,x28,b2_0,b2_1,b2_2,b3_0,b3_1,b3_2=>if x28<x27 then (if 0≤x28 then (if x28<(x26.length:Int) then (if ((rd_A2_i64 x26 x28).f0)<((rd_A2_i64 x26 x28).f1) then (some (-1)) else (if ((rd_A2_i64 x26 x28).f0)>((rd_A2_i64 x26 x28).f1) then (some 1) else (fQ21.l0 k x26 x27 (wrap64 (x28+1)) b2_0 b2_1 b2_2 b3_0 b3_1 b3_2))) else none) else none) else (fQ21.l1 k (b2_2.length:Int) 0 b2_0 b2_1 b2_2 b3_0 b3_1 b3_2)
noncomputable def fQ21.l1:Nat→Int→Int→Int→Int→List (I_Term)→Int→Int→List (I_Term)→Option (Int)
 | 0,_,_,_,_,_,_,_,_=>none
 | k+1,x47,x48,b2_0,b2_1,b2_2,b3_0,b3_1,b3_2=>if x48<x47 then (if 0≤x48 then (if x48<(b2_2.length:Int) then (if x48<(b3_2.length:Int) then ((fQ21.f k ((rd_I_Term b2_2 x48).f0) ((rd_I_Term b2_2 x48).f1) ((rd_I_Term b2_2 x48).f2) ((rd_I_Term b3_2 x48).f0) ((rd_I_Term b3_2 x48).f1) ((rd_I_Term b3_2 x48).f2)).bind fun t1=>(if t1=0 then (fQ21.l1 k x47 (wrap64 (x48+1)) b2_0 b2_1 b2_2 b3_0 b3_1 b3_2) else (some t1))) else none) else none) else none) else (some 0)
noncomputable def fQ21.f:Nat→Int→Int→List (I_Term)→Int→Int→List (I_Term)→Option (Int)
 | 0,_,_,_,_,_,_=>none
 | k+1,a0_0,a0_1,l0_2,a1_0,a1_1,l1_2=>fQ21.l0 k ([⟨a0_0,a1_0⟩,⟨a0_1,a1_1⟩,⟨(l0_2.length:Int),(l1_2.length:Int)⟩]:List (A2_i64)) (([⟨a0_0,a1_0⟩,⟨a0_1,a1_1⟩,⟨(l0_2.length:Int),(l1_2.length:Int)⟩]:List (A2_i64)).length:Int) 0 a0_0 a0_1 l0_2 a1_0 a1_1 l1_2
end
noncomputable def fQ21.ent (k:Nat):Ent TT:=⟨200,[.agg 3,.agg 3],[.int .i64,.int .i64,.lst (.st 1),.int .i64,.int .i64,.lst (.st 1)],.one,[.int .i64],fun x=>fQ21.f k x.1 x.2.1 x.2.2.1 x.2.2.2.1 x.2.2.2.2.1 x.2.2.2.2.2⟩
noncomputable def fQ21.l0.c:Cut:=⟨[],[(2,2),(3,2)],[(2,.ptr 2 0),(3,.ptr 3 0),(26,.own 26),(27,.one),(28,.one)],[(2,[.one,.one,.one]),(3,[.one,.one,.one])],[(26,.st 2)],[.int .i64,.int .i64,.int .i64,.int .i64,.lst (.st 1),.int .i64,.int .i64,.lst (.st 1),.lst (.st 2)]⟩
noncomputable def fQ21.l1.c:Cut:=⟨[],[(2,2),(3,2)],[(2,.ptr 2 0),(3,.ptr 3 0),(47,.one),(48,.one)],[(2,[.one,.one,.one]),(3,[.one,.one,.one])],[],[.int .i64,.int .i64,.int .i64,.int .i64,.lst (.st 1),.int .i64,.int .i64,.lst (.st 1)]⟩
@[reducible] noncomputable def fQ21.us:List (CutU TT (TupT ST [.int .i64])):=[⟨2,fQ21.l0.c,fun k x=>fQ21.l0 k x.2.2.2.2.2.2.2.2 x.1 x.2.1 x.2.2.1 x.2.2.2.1 x.2.2.2.2.1 x.2.2.2.2.2.1 x.2.2.2.2.2.2.1 x.2.2.2.2.2.2.2.1⟩,⟨10,fQ21.l1.c,fun k x=>fQ21.l1 k x.1 x.2.1 x.2.2.1 x.2.2.2.1 x.2.2.2.2.1 x.2.2.2.2.2.1 x.2.2.2.2.2.2.1 x.2.2.2.2.2.2.2⟩]
noncomputable def fQ21.ents (k:Nat):Ents TT:=⟨[fQ21.ent k],[],[]⟩
noncomputable def fQ21.l0.raw (k:Nat) (x26:List (A2_i64)) (x27:Int) (x28:Int) (b2_0:Int) (b2_1:Int) (b2_2:List (I_Term)) (b3_0:Int) (b3_1:Int) (b3_2:List (I_Term)):Option (Int):=if x28<x27 then (if 0≤x28 then (if x28<(x26.length:Int) then (if ((rd_A2_i64 x26 x28).f0)<((rd_A2_i64 x26 x28).f1) then (some (-1)) else (if ((rd_A2_i64 x26 x28).f0)>((rd_A2_i64 x26 x28).f1) then (some 1) else (fQ21.l0 k x26 x27 (wr .i64 (x28+1)) b2_0 b2_1 b2_2 b3_0 b3_1 b3_2))) else none) else none) else (fQ21.l1 k (b2_2.length:Int) 0 b2_0 b2_1 b2_2 b3_0 b3_1 b3_2)
theorem fQ21.l0.clean (k:Nat) (x26:List (A2_i64)) (x27:Int) (x28:Int) (b2_0:Int) (b2_1:Int) (b2_2:List (I_Term)) (b3_0:Int) (b3_1:Int) (b3_2:List (I_Term)):fQ21.l0.raw k x26 x27 x28 b2_0 b2_1 b2_2 b3_0 b3_1 b3_2=fQ21.l0 (k+1) x26 x27 x28 b2_0 b2_1 b2_2 b3_0 b3_1 b3_2:=by
 rw [fQ21.l0.raw,fQ21.l0]
 simp only [wr_i64]
theorem fQ21.l0.chk (k:Nat) (x:TupT ST [.int .i64,.int .i64,.int .i64,.int .i64,.lst (.st 1),.int .i64,.int .i64,.lst (.st 1),.lst (.st 2)]):runU TT (calF [] (fQ21.ents k)) (jmps fQ21.us k) (finK Tryz.f200 (retK TT (.one) [.int .i64])) Tryz.f200 (some 2) (canonC fQ21.l0.c x)=fQ21.l0 (k+1) x.2.2.2.2.2.2.2.2 x.1 x.2.1 x.2.2.1 x.2.2.2.1 x.2.2.2.2.1 x.2.2.2.2.2.1 x.2.2.2.2.2.2.1 x.2.2.2.2.2.2.2.1:=Eq.trans (show _=fQ21.l0.raw k x.2.2.2.2.2.2.2.2 x.1 x.2.1 x.2.2.1 x.2.2.2.1 x.2.2.2.2.1 x.2.2.2.2.2.1 x.2.2.2.2.2.2.1 x.2.2.2.2.2.2.2.1 by kernel_rfl) (fQ21.l0.clean k x.2.2.2.2.2.2.2.2 x.1 x.2.1 x.2.2.1 x.2.2.2.1 x.2.2.2.2.1 x.2.2.2.2.2.1 x.2.2.2.2.2.2.1 x.2.2.2.2.2.2.2.1)
noncomputable def fQ21.l1.raw (k:Nat) (x47:Int) (x48:Int) (b2_0:Int) (b2_1:Int) (b2_2:List (I_Term)) (b3_0:Int) (b3_1:Int) (b3_2:List (I_Term)):Option (Int):=if x48<x47 then (if 0≤x48 then (if x48<(b2_2.length:Int) then (if 0≤x48 then (if x48<(b3_2.length:Int) then ((fQ21.f k ((rd_I_Term b2_2 x48).f0) ((rd_I_Term b2_2 x48).f1) ((rd_I_Term b2_2 x48).f2) ((rd_I_Term b3_2 x48).f0) ((rd_I_Term b3_2 x48).f1) ((rd_I_Term b3_2 x48).f2)).bind fun t1=>(if ¬t1=0 then (some t1) else (fQ21.l1 k x47 (wr .i64 (x48+1)) b2_0 b2_1 b2_2 b3_0 b3_1 b3_2))) else none) else none) else none) else none) else (some 0)
theorem fQ21.l1.clean (k:Nat) (x47:Int) (x48:Int) (b2_0:Int) (b2_1:Int) (b2_2:List (I_Term)) (b3_0:Int) (b3_1:Int) (b3_2:List (I_Term)):fQ21.l1.raw k x47 x48 b2_0 b2_1 b2_2 b3_0 b3_1 b3_2=fQ21.l1 (k+1) x47 x48 b2_0 b2_1 b2_2 b3_0 b3_1 b3_2:=by
 rw [fQ21.l1.raw,fQ21.l1]
 simp only [wr_i64]
 exact ite_congr rfl (fun h0=>ite_congr rfl (fun h1=>ite_congr rfl (fun h2=>Eq.trans (if_pos h1) (ite_congr rfl (fun h3=>bind_cg fun t1=>(ite_ng _ _)) (fun h3=>rfl))) (fun h2=>rfl)) (fun h1=>rfl)) (fun h0=>rfl)
theorem fQ21.l1.chk (k:Nat) (x:TupT ST [.int .i64,.int .i64,.int .i64,.int .i64,.lst (.st 1),.int .i64,.int .i64,.lst (.st 1)]):runU TT (calF [] (fQ21.ents k)) (jmps fQ21.us k) (finK Tryz.f200 (retK TT (.one) [.int .i64])) Tryz.f200 (some 10) (canonC fQ21.l1.c x)=fQ21.l1 (k+1) x.1 x.2.1 x.2.2.1 x.2.2.2.1 x.2.2.2.2.1 x.2.2.2.2.2.1 x.2.2.2.2.2.2.1 x.2.2.2.2.2.2.2:=Eq.trans (show _=fQ21.l1.raw k x.1 x.2.1 x.2.2.1 x.2.2.2.1 x.2.2.2.2.1 x.2.2.2.2.2.1 x.2.2.2.2.2.2.1 x.2.2.2.2.2.2.2 by kernel_rfl) (fQ21.l1.clean k x.1 x.2.1 x.2.2.1 x.2.2.2.1 x.2.2.2.2.1 x.2.2.2.2.2.1 x.2.2.2.2.2.2.1 x.2.2.2.2.2.2.2)
theorem fQ21.chk (k:Nat) (x:TupT ST [.int .i64,.int .i64,.lst (.st 1),.int .i64,.int .i64,.lst (.st 1)]):runU TT (calF [] (fQ21.ents k)) (jmps fQ21.us k) (finK Tryz.f200 (retK TT (.one) [.int .i64])) Tryz.f200 none (canon (args0 0 (argL [.agg 3,.agg 3] [.int .i64,.int .i64,.lst (.st 1),.int .i64,.int .i64,.lst (.st 1)] x)) [])=fQ21.f (k+1) x.1 x.2.1 x.2.2.1 x.2.2.2.1 x.2.2.2.2.1 x.2.2.2.2.2:=by kernel_rfl
theorem fQ21.grp:∀k:Nat,EachU (EntOk Tryz.prog TT) [fQ21.ent k]∧EachU (Ent2Ok Tryz.prog TT) []:=by
 intro k
 induction k using Nat.strongRecOn with
 | ind k ih=>
  exact And.intro (And.intro (fun_in tbl mixed 200 Tryz.f200 Tryz.func200 rfl (by kernel_rfl) [.agg 3,.agg 3] [.int .i64,.int .i64,.lst (.st 1),.int .i64,.int .i64,.lst (.st 1)] (.one) [.int .i64] (by kernel_rfl) [] fQ21.ents fQ21.us (And.intro (fun _=>rfl) (And.intro (fun _=>rfl) True.intro)) (And.intro fQ21.l0.chk (And.intro fQ21.l1.chk True.intro)) (fun k (x:TupT ST [.int .i64,.int .i64,.lst (.st 1),.int .i64,.int .i64,.lst (.st 1)])=>fQ21.f k x.1 x.2.1 x.2.2.1 x.2.2.2.1 x.2.2.2.2.1 x.2.2.2.2.2) (fun _=>rfl) fQ21.chk k (fun j h=>EntsOk.mk (And.intro (ih j h).1.1 True.intro) True.intro True.intro)) True.intro) True.intro
theorem fQ21.ok (k:Nat):EntOk Tryz.prog TT (fQ21.ent k):=(fQ21.grp k).1.1
noncomputable def fQ83.f (k:Nat) (a0_0:Int) (a0_1:Int) (l0_2:List (I_Term)) (a1_0:Int) (a1_1:Int) (l1_2:List (I_Term)):Option (Bool):=(fQ21.f k a0_0 a0_1 l0_2 a1_0 a1_1 l1_2).bind fun t1=>(some (decide (t1<0)))
@[reducible] noncomputable def fQ83.us:List (CutU TT (TupT ST [.bool])):=[]
noncomputable def fQ83.ent (k:Nat):Ent TT:=⟨211,[.agg 3,.agg 3],[.int .i64,.int .i64,.lst (.st 1),.int .i64,.int .i64,.lst (.st 1)],.one,[.bool],fun x=>fQ83.f k x.1 x.2.1 x.2.2.1 x.2.2.2.1 x.2.2.2.2.1 x.2.2.2.2.2⟩
noncomputable def fQ83.ents (k:Nat):Ents TT:=⟨[fQ21.ent k],[],[]⟩
theorem fQ83.chk (k:Nat) (x:TupT ST [.int .i64,.int .i64,.lst (.st 1),.int .i64,.int .i64,.lst (.st 1)]):runU TT (calF [] (fQ83.ents k)) (jmps fQ83.us k) (finK Tryz.f211 (retK TT (.one) [.bool])) Tryz.f211 none (canon (args0 0 (argL [.agg 3,.agg 3] [.int .i64,.int .i64,.lst (.st 1),.int .i64,.int .i64,.lst (.st 1)] x)) [])=fQ83.f k x.1 x.2.1 x.2.2.1 x.2.2.2.1 x.2.2.2.2.1 x.2.2.2.2.2:=by kernel_rfl
theorem fQ83.ok (k:Nat):EntOk Tryz.prog TT (fQ83.ent k):=
 fun_of tbl mixed 211 Tryz.f211 Tryz.func211 rfl (by kernel_rfl) [.agg 3,.agg 3] [.int .i64,.int .i64,.lst (.st 1),.int .i64,.int .i64,.lst (.st 1)] (.one) [.bool] (by kernel_rfl) [] fQ83.ents fQ83.us True.intro True.intro (fun k (x:TupT ST [.int .i64,.int .i64,.lst (.st 1),.int .i64,.int .i64,.lst (.st 1)])=>fQ83.f k x.1 x.2.1 x.2.2.1 x.2.2.2.1 x.2.2.2.2.1 x.2.2.2.2.2) fQ83.chk (fun k=>EntsOk.mk (And.intro (fQ21.ok k) True.intro) True.intro True.intro) k
noncomputable def fQ75.f (l0:List (I_Sym)) (a1:Int):Option (Bool):=(impl_from.f a1 0 (wrap64 ((l0.length:Int) - 1))).bind fun t1=>(some t1)
@[reducible] noncomputable def fQ75.us:List (CutU TT (TupT ST [.bool])):=[]
noncomputable def fQ75.ent:Ent TT:=⟨268,[.one,.one],[.lst (.st 0),.int .i64],.one,[.bool],fun x=>fQ75.f x.1 x.2⟩
noncomputable def fQ75.ents (k:Nat):Ents TT:=⟨[impl_from.ent],[],[]⟩
noncomputable def fQ75.raw (k:Nat) (l0:List (I_Sym)) (a1:Int):Option (Bool):=(impl_from.f a1 0 (wr .i64 ((l0.length:Int) - 1))).bind fun t1=>(some t1)
theorem fQ75.clean (k:Nat) (l0:List (I_Sym)) (a1:Int):fQ75.raw k l0 a1=fQ75.f l0 a1:=by
 rw [fQ75.raw,fQ75.f]
 simp only [wr_i64]
theorem fQ75.chk (k:Nat) (x:TupT ST [.lst (.st 0),.int .i64]):runU TT (calF [] (fQ75.ents k)) (jmps fQ75.us k) (finK Tryz.f268 (retK TT (.one) [.bool])) Tryz.f268 none (canon (args0 0 (argL [.one,.one] [.lst (.st 0),.int .i64] x)) [])=fQ75.f x.1 x.2:=Eq.trans (show _=fQ75.raw k x.1 x.2 by kernel_rfl) (fQ75.clean k x.1 x.2)
theorem fQ75.ok:EntOk Tryz.prog TT (fQ75.ent):=
 fun_of tbl mixed 268 Tryz.f268 Tryz.func268 rfl (by kernel_rfl) [.one,.one] [.lst (.st 0),.int .i64] (.one) [.bool] (by kernel_rfl) [] fQ75.ents fQ75.us True.intro True.intro (fun k (x:TupT ST [.lst (.st 0),.int .i64])=>fQ75.f x.1 x.2) fQ75.chk (fun k=>EntsOk.mk (And.intro impl_from.ok True.intro) True.intro True.intro) 0
mutual
noncomputable def fQ35.l0:Nat→List (I_Sym)→List (I_Term)→Int→Int→Int→Int→List (I_Term)→Option (Bool)
 | 0,_,_,_,_,_,_,_=>none
 | k+1,x0,x64,x65,x66,b3_0,b3_1,b3_2=>if x66<x65 then (if 0≤x66 then (if x66<(x64.length:Int) then ((fQ35.f k x0 ((rd_I_Term x64 x66).f0) ((rd_I_Term x64 x66).f1) ((rd_I_Term x64 x66).f2)).bind fun t4=>(if t4=true then (if 0≤b3_0 then (if b3_0<(x0.length:Int) then (if ((rd_I_Sym x0 b3_0).f2)=true then (if ((rd_I_Term x64 x66).f0)=b3_0 then (some false) else (if x66>0 then (if 0≤(wrap64 (x66 - 1)) then (if (wrap64 (x66 - 1))<(b3_2.length:Int) then ((fQ83.f k ((rd_I_Term x64 x66).f0) ((rd_I_Term x64 x66).f1) ((rd_I_Term x64 x66).f2) ((rd_I_Term b3_2 (wrap64 (x66 - 1))).f0) ((rd_I_Term b3_2 (wrap64 (x66 - 1))).f1) ((rd_I_Term b3_2 (wrap64 (x66 - 1))).f2)).bind fun t5=>(if t5=true then (some false) else (fQ35.l0 k x0 x64 x65 (wrap64 (x66+1)) b3_0 b3_1 b3_2))) else none) else none) else (fQ35.l0 k x0 x64 x65 (wrap64 (x66+1)) b3_0 b3_1 b3_2))) else (fQ35.l0 k x0 x64 x65 (wrap64 (x66+1)) b3_0 b3_1 b3_2)) else none) else none) else (some false))) else none) else none) else (some true)
noncomputable def fQ35.f:Nat→List (I_Sym)→Int→Int→List (I_Term)→Option (Bool)
 | 0,_,_,_,_=>none
 | k+1,l0,a1_0,a1_1,l1_2=>(fQ81.f a1_0 a1_1 l1_2).bind fun t1=>(if t1=true then ((impl_from.f a1_1 0 99).bind fun t2=>(if t2=true then (some (decide ((l1_2.length:Int)=0))) else (some false))) else ((fQ75.f l0 a1_0).bind fun t3=>(if t3=true then (if a1_1=0 then (if 0≤a1_0 then (if a1_0<(l0.length:Int) then (if ((rd_I_Sym l0 a1_0).f2)=true then (if (l1_2.length:Int)<2 then (some false) else (fQ35.l0 k l0 l1_2 (l1_2.length:Int) 0 a1_0 a1_1 l1_2)) else (if (l1_2.length:Int)=((rd_I_Sym l0 a1_0).f1) then (fQ35.l0 k l0 l1_2 (l1_2.length:Int) 0 a1_0 a1_1 l1_2) else (some false))) else none) else none) else (some false)) else (some false))))
end
noncomputable def fQ35.ent (k:Nat):Ent TT:=⟨213,[.one,.agg 3],[.lst (.st 0),.int .i64,.int .i64,.lst (.st 1)],.one,[.bool],fun x=>fQ35.f k x.1 x.2.1 x.2.2.1 x.2.2.2⟩
noncomputable def fQ35.l0.c:Cut:=⟨[0,64],[(3,2)],[(0,.one),(3,.ptr 3 0),(64,.one),(65,.one),(66,.one)],[(3,[.one,.one,.one])],[],[.lst (.st 0),.lst (.st 1),.int .i64,.int .i64,.int .i64,.int .i64,.lst (.st 1)]⟩
@[reducible] noncomputable def fQ35.us:List (CutU TT (TupT ST [.bool])):=[⟨6,fQ35.l0.c,fun k x=>fQ35.l0 k x.1 x.2.1 x.2.2.1 x.2.2.2.1 x.2.2.2.2.1 x.2.2.2.2.2.1 x.2.2.2.2.2.2⟩]
noncomputable def fQ35.ents (k:Nat):Ents TT:=⟨[fQ81.ent,impl_from.ent,fQ75.ent,fQ35.ent k,fQ83.ent k],[],[]⟩
noncomputable def fQ35.l0.raw (k:Nat) (x0:List (I_Sym)) (x64:List (I_Term)) (x65:Int) (x66:Int) (b3_0:Int) (b3_1:Int) (b3_2:List (I_Term)):Option (Bool):=if x66<x65 then (if 0≤x66 then (if x66<(x64.length:Int) then ((fQ35.f k x0 ((rd_I_Term x64 x66).f0) ((rd_I_Term x64 x66).f1) ((rd_I_Term x64 x66).f2)).bind fun t4=>(if (!t4)=true then (some false) else (if 0≤b3_0 then (if b3_0<(x0.length:Int) then (if ((rd_I_Sym x0 b3_0).f2)=true then (if ((rd_I_Term x64 x66).f0)=b3_0 then (some false) else (if x66>0 then (if 0≤(wr .i64 (x66 - 1)) then (if (wr .i64 (x66 - 1))<(b3_2.length:Int) then ((fQ83.f k ((rd_I_Term x64 x66).f0) ((rd_I_Term x64 x66).f1) ((rd_I_Term x64 x66).f2) ((rd_I_Term b3_2 (wr .i64 (x66 - 1))).f0) ((rd_I_Term b3_2 (wr .i64 (x66 - 1))).f1) ((rd_I_Term b3_2 (wr .i64 (x66 - 1))).f2)).bind fun t5=>(if t5=true then (some false) else (fQ35.l0 k x0 x64 x65 (wr .i64 (x66+1)) b3_0 b3_1 b3_2))) else none) else none) else (fQ35.l0 k x0 x64 x65 (wr .i64 (x66+1)) b3_0 b3_1 b3_2))) else (fQ35.l0 k x0 x64 x65 (wr .i64 (x66+1)) b3_0 b3_1 b3_2)) else none) else none))) else none) else none) else (some true)
theorem fQ35.l0.clean (k:Nat) (x0:List (I_Sym)) (x64:List (I_Term)) (x65:Int) (x66:Int) (b3_0:Int) (b3_1:Int) (b3_2:List (I_Term)):fQ35.l0.raw k x0 x64 x65 x66 b3_0 b3_1 b3_2=fQ35.l0 (k+1) x0 x64 x65 x66 b3_0 b3_1 b3_2:=by
 rw [fQ35.l0.raw,fQ35.l0]
 simp only [wr_i64]
 exact ite_congr rfl (fun h0=>ite_congr rfl (fun h1=>ite_congr rfl (fun h2=>bind_cg fun t4=>(ite_nb _ _ _)) (fun h2=>rfl)) (fun h1=>rfl)) (fun h0=>rfl)
theorem fQ35.l0.chk (k:Nat) (x:TupT ST [.lst (.st 0),.lst (.st 1),.int .i64,.int .i64,.int .i64,.int .i64,.lst (.st 1)]):runU TT (calF [] (fQ35.ents k)) (jmps fQ35.us k) (finK Tryz.f213 (retK TT (.one) [.bool])) Tryz.f213 (some 6) (canonC fQ35.l0.c x)=fQ35.l0 (k+1) x.1 x.2.1 x.2.2.1 x.2.2.2.1 x.2.2.2.2.1 x.2.2.2.2.2.1 x.2.2.2.2.2.2:=Eq.trans (show _=fQ35.l0.raw k x.1 x.2.1 x.2.2.1 x.2.2.2.1 x.2.2.2.2.1 x.2.2.2.2.2.1 x.2.2.2.2.2.2 by kernel_rfl) (fQ35.l0.clean k x.1 x.2.1 x.2.2.1 x.2.2.2.1 x.2.2.2.2.1 x.2.2.2.2.2.1 x.2.2.2.2.2.2)
noncomputable def fQ35.raw (k:Nat) (l0:List (I_Sym)) (a1_0:Int) (a1_1:Int) (l1_2:List (I_Term)):Option (Bool):=(fQ81.f a1_0 a1_1 l1_2).bind fun t1=>(if t1=true then ((impl_from.f a1_1 0 99).bind fun t2=>(if t2=true then (some (decide ((l1_2.length:Int)=0))) else (some false))) else ((fQ75.f l0 a1_0).bind fun t3=>(if (!t3)=true then (some false) else (if ¬a1_1=0 then (some false) else (if 0≤a1_0 then (if a1_0<(l0.length:Int) then (if (!((rd_I_Sym l0 a1_0).f2))=true then (if 0≤a1_0 then (if a1_0<(l0.length:Int) then (if ¬(l1_2.length:Int)=((rd_I_Sym l0 a1_0).f1) then (some false) else (if 0≤a1_0 then (if a1_0<(l0.length:Int) then (if ((rd_I_Sym l0 a1_0).f2)=true then (if (l1_2.length:Int)<2 then (some false) else (fQ35.l0 k l0 l1_2 (l1_2.length:Int) 0 a1_0 a1_1 l1_2)) else (fQ35.l0 k l0 l1_2 (l1_2.length:Int) 0 a1_0 a1_1 l1_2)) else none) else none)) else none) else none) else (if 0≤a1_0 then (if a1_0<(l0.length:Int) then (if ((rd_I_Sym l0 a1_0).f2)=true then (if (l1_2.length:Int)<2 then (some false) else (fQ35.l0 k l0 l1_2 (l1_2.length:Int) 0 a1_0 a1_1 l1_2)) else (fQ35.l0 k l0 l1_2 (l1_2.length:Int) 0 a1_0 a1_1 l1_2)) else none) else none)) else none) else none)))))
theorem fQ35.clean (k:Nat) (l0:List (I_Sym)) (a1_0:Int) (a1_1:Int) (l1_2:List (I_Term)):fQ35.raw k l0 a1_0 a1_1 l1_2=fQ35.f (k+1) l0 a1_0 a1_1 l1_2:=by
 rw [fQ35.raw,fQ35.f]
 exact bind_cg fun t1=>(ite_congr rfl (fun h0=>rfl) (fun h0=>bind_cg fun t3=>(Eq.trans (ite_nb _ _ _) (ite_congr rfl (fun h1=>Eq.trans (ite_ng _ _) (ite_congr rfl (fun h2=>ite_congr rfl (fun h3=>ite_congr rfl (fun h4=>Eq.trans (ite_nb _ _ _) (ite_congr rfl (fun h5=>Eq.trans (if_pos h3) (Eq.trans (if_pos h4) (if_pos h5))) (fun h5=>Eq.trans (if_pos h3) (Eq.trans (if_pos h4) (Eq.trans (ite_ng _ _) (ite_congr rfl (fun h6=>Eq.trans (if_pos h3) (Eq.trans (if_pos h4) (if_neg h5))) (fun h6=>rfl))))))) (fun h4=>rfl)) (fun h3=>rfl)) (fun h2=>rfl))) (fun h1=>rfl)))))
theorem fQ35.chk (k:Nat) (x:TupT ST [.lst (.st 0),.int .i64,.int .i64,.lst (.st 1)]):runU TT (calF [] (fQ35.ents k)) (jmps fQ35.us k) (finK Tryz.f213 (retK TT (.one) [.bool])) Tryz.f213 none (canon (args0 0 (argL [.one,.agg 3] [.lst (.st 0),.int .i64,.int .i64,.lst (.st 1)] x)) [])=fQ35.f (k+1) x.1 x.2.1 x.2.2.1 x.2.2.2:=Eq.trans (show _=fQ35.raw k x.1 x.2.1 x.2.2.1 x.2.2.2 by kernel_rfl) (fQ35.clean k x.1 x.2.1 x.2.2.1 x.2.2.2)
theorem fQ35.grp:∀k:Nat,EachU (EntOk Tryz.prog TT) [fQ35.ent k]∧EachU (Ent2Ok Tryz.prog TT) []:=by
 intro k
 induction k using Nat.strongRecOn with
 | ind k ih=>
  exact And.intro (And.intro (fun_in tbl mixed 213 Tryz.f213 Tryz.func213 rfl (by kernel_rfl) [.one,.agg 3] [.lst (.st 0),.int .i64,.int .i64,.lst (.st 1)] (.one) [.bool] (by kernel_rfl) [] fQ35.ents fQ35.us (And.intro (fun _=>rfl) True.intro) (And.intro fQ35.l0.chk True.intro) (fun k (x:TupT ST [.lst (.st 0),.int .i64,.int .i64,.lst (.st 1)])=>fQ35.f k x.1 x.2.1 x.2.2.1 x.2.2.2) (fun _=>rfl) fQ35.chk k (fun j h=>EntsOk.mk (And.intro fQ81.ok (And.intro impl_from.ok (And.intro fQ75.ok (And.intro (ih j h).1.1 (And.intro (fQ83.ok j) True.intro))))) True.intro True.intro)) True.intro) True.intro
theorem fQ35.ok (k:Nat):EntOk Tryz.prog TT (fQ35.ent k):=(fQ35.grp k).1.1
noncomputable def fQ87.f (k:Nat) (l0:List (I_Sym)) (a1_0:Int) (a1_1:Int) (l1_2:List (I_Term)):Option (Bool):=(fQ58.f k l0).bind fun t1=>(if t1=true then ((fQ95.f k a1_0 a1_1 l1_2).bind fun t2=>(if t2≤60 then ((fQ35.f k l0 a1_0 a1_1 l1_2).bind fun t3=>(some t3)) else (some false))) else (some false))
@[reducible] noncomputable def fQ87.us:List (CutU TT (TupT ST [.bool])):=[]
noncomputable def fQ87.ent (k:Nat):Ent TT:=⟨90,[.one,.agg 3],[.lst (.st 0),.int .i64,.int .i64,.lst (.st 1)],.one,[.bool],fun x=>fQ87.f k x.1 x.2.1 x.2.2.1 x.2.2.2⟩
noncomputable def fQ87.ents (k:Nat):Ents TT:=⟨[fQ58.ent k,fQ95.ent k,fQ35.ent k],[],[]⟩
theorem fQ87.chk (k:Nat) (x:TupT ST [.lst (.st 0),.int .i64,.int .i64,.lst (.st 1)]):runU TT (calF [] (fQ87.ents k)) (jmps fQ87.us k) (finK Tryz.f90 (retK TT (.one) [.bool])) Tryz.f90 none (canon (args0 0 (argL [.one,.agg 3] [.lst (.st 0),.int .i64,.int .i64,.lst (.st 1)] x)) [])=fQ87.f k x.1 x.2.1 x.2.2.1 x.2.2.2:=by kernel_rfl
theorem fQ87.ok (k:Nat):EntOk Tryz.prog TT (fQ87.ent k):=
 fun_of tbl mixed 90 Tryz.f90 Tryz.func90 rfl (by kernel_rfl) [.one,.agg 3] [.lst (.st 0),.int .i64,.int .i64,.lst (.st 1)] (.one) [.bool] (by kernel_rfl) [] fQ87.ents fQ87.us True.intro True.intro (fun k (x:TupT ST [.lst (.st 0),.int .i64,.int .i64,.lst (.st 1)])=>fQ87.f k x.1 x.2.1 x.2.2.1 x.2.2.2) fQ87.chk (fun k=>EntsOk.mk (And.intro (fQ58.ok k) (And.intro (fQ95.ok k) (And.intro (fQ35.ok k) True.intro))) True.intro True.intro) k
noncomputable def fQ91.f (k:Nat) (l0:List (I_Sym)) (a1_0:Bool) (a1_1:Int) (a1_2:Int) (l1_3:List (I_Term)) (a1_4:Int) (a1_5:Int) (l1_6:List (I_Term)):Option (Bool):=(fQ87.f k l0 a1_1 a1_2 l1_3).bind fun t1=>(if t1=true then ((fQ87.f k l0 a1_4 a1_5 l1_6).bind fun t2=>(if t2=true then ((fQ83.f k a1_1 a1_2 l1_3 a1_4 a1_5 l1_6).bind fun t3=>(some (!t3))) else (some false))) else (some false))
@[reducible] noncomputable def fQ91.us:List (CutU TT (TupT ST [.bool])):=[]
noncomputable def fQ91.ent (k:Nat):Ent TT:=⟨111,[.one,.agg 7],[.lst (.st 0),.bool,.int .i64,.int .i64,.lst (.st 1),.int .i64,.int .i64,.lst (.st 1)],.one,[.bool],fun x=>fQ91.f k x.1 x.2.1 x.2.2.1 x.2.2.2.1 x.2.2.2.2.1 x.2.2.2.2.2.1 x.2.2.2.2.2.2.1 x.2.2.2.2.2.2.2⟩
noncomputable def fQ91.ents (k:Nat):Ents TT:=⟨[fQ87.ent k,fQ83.ent k],[],[]⟩
theorem fQ91.chk (k:Nat) (x:TupT ST [.lst (.st 0),.bool,.int .i64,.int .i64,.lst (.st 1),.int .i64,.int .i64,.lst (.st 1)]):runU TT (calF [] (fQ91.ents k)) (jmps fQ91.us k) (finK Tryz.f111 (retK TT (.one) [.bool])) Tryz.f111 none (canon (args0 0 (argL [.one,.agg 7] [.lst (.st 0),.bool,.int .i64,.int .i64,.lst (.st 1),.int .i64,.int .i64,.lst (.st 1)] x)) [])=fQ91.f k x.1 x.2.1 x.2.2.1 x.2.2.2.1 x.2.2.2.2.1 x.2.2.2.2.2.1 x.2.2.2.2.2.2.1 x.2.2.2.2.2.2.2:=by kernel_rfl
theorem fQ91.ok (k:Nat):EntOk Tryz.prog TT (fQ91.ent k):=
 fun_of tbl mixed 111 Tryz.f111 Tryz.func111 rfl (by kernel_rfl) [.one,.agg 7] [.lst (.st 0),.bool,.int .i64,.int .i64,.lst (.st 1),.int .i64,.int .i64,.lst (.st 1)] (.one) [.bool] (by kernel_rfl) [] fQ91.ents fQ91.us True.intro True.intro (fun k (x:TupT ST [.lst (.st 0),.bool,.int .i64,.int .i64,.lst (.st 1),.int .i64,.int .i64,.lst (.st 1)])=>fQ91.f k x.1 x.2.1 x.2.2.1 x.2.2.2.1 x.2.2.2.2.1 x.2.2.2.2.2.1 x.2.2.2.2.2.2.1 x.2.2.2.2.2.2.2) fQ91.chk (fun k=>EntsOk.mk (And.intro (fQ87.ok k) (And.intro (fQ83.ok k) True.intro)) True.intro True.intro) k
noncomputable def fQ67.f (k:Nat) (a0_0:Bool) (a0_1:Int) (a0_2:Int) (l0_3:List (I_Term)) (a0_4:Int) (a0_5:Int) (l0_6:List (I_Term)) (a1_0:Bool) (a1_1:Int) (a1_2:Int) (l1_3:List (I_Term)) (a1_4:Int) (a1_5:Int) (l1_6:List (I_Term)):Option (Int):=if a0_0=true then (if a1_0=true then ((fQ21.f k a0_1 a0_2 l0_3 a1_1 a1_2 l1_3).bind fun t5=>(if t5=0 then ((fQ21.f k a0_4 a0_5 l0_6 a1_4 a1_5 l1_6).bind fun t6=>(some t6)) else (some t5))) else (some 1)) else (if a1_0=true then (some (-1)) else ((fQ21.f k a0_1 a0_2 l0_3 a1_1 a1_2 l1_3).bind fun t3=>(if t3=0 then ((fQ21.f k a0_4 a0_5 l0_6 a1_4 a1_5 l1_6).bind fun t4=>(some t4)) else (some t3))))
@[reducible] noncomputable def fQ67.us:List (CutU TT (TupT ST [.int .i64])):=[]
noncomputable def fQ67.ent (k:Nat):Ent TT:=⟨216,[.agg 7,.agg 7],[.bool,.int .i64,.int .i64,.lst (.st 1),.int .i64,.int .i64,.lst (.st 1),.bool,.int .i64,.int .i64,.lst (.st 1),.int .i64,.int .i64,.lst (.st 1)],.one,[.int .i64],fun x=>fQ67.f k x.1 x.2.1 x.2.2.1 x.2.2.2.1 x.2.2.2.2.1 x.2.2.2.2.2.1 x.2.2.2.2.2.2.1 x.2.2.2.2.2.2.2.1 x.2.2.2.2.2.2.2.2.1 x.2.2.2.2.2.2.2.2.2.1 x.2.2.2.2.2.2.2.2.2.2.1 x.2.2.2.2.2.2.2.2.2.2.2.1 x.2.2.2.2.2.2.2.2.2.2.2.2.1 x.2.2.2.2.2.2.2.2.2.2.2.2.2⟩
noncomputable def fQ67.ents (k:Nat):Ents TT:=⟨[fQ21.ent k],[],[]⟩
noncomputable def fQ67.raw (k:Nat) (a0_0:Bool) (a0_1:Int) (a0_2:Int) (l0_3:List (I_Term)) (a0_4:Int) (a0_5:Int) (l0_6:List (I_Term)) (a1_0:Bool) (a1_1:Int) (a1_2:Int) (l1_3:List (I_Term)) (a1_4:Int) (a1_5:Int) (l1_6:List (I_Term)):Option (Int):=if (!a0_0)=true then (if a1_0=true then (some (-1)) else (if a0_0=true then (if (!a1_0)=true then (some 1) else ((fQ21.f k a0_1 a0_2 l0_3 a1_1 a1_2 l1_3).bind fun t1=>(if ¬t1=0 then (some t1) else ((fQ21.f k a0_4 a0_5 l0_6 a1_4 a1_5 l1_6).bind fun t2=>(some t2))))) else ((fQ21.f k a0_1 a0_2 l0_3 a1_1 a1_2 l1_3).bind fun t3=>(if ¬t3=0 then (some t3) else ((fQ21.f k a0_4 a0_5 l0_6 a1_4 a1_5 l1_6).bind fun t4=>(some t4)))))) else (if a0_0=true then (if (!a1_0)=true then (some 1) else ((fQ21.f k a0_1 a0_2 l0_3 a1_1 a1_2 l1_3).bind fun t5=>(if ¬t5=0 then (some t5) else ((fQ21.f k a0_4 a0_5 l0_6 a1_4 a1_5 l1_6).bind fun t6=>(some t6))))) else ((fQ21.f k a0_1 a0_2 l0_3 a1_1 a1_2 l1_3).bind fun t7=>(if ¬t7=0 then (some t7) else ((fQ21.f k a0_4 a0_5 l0_6 a1_4 a1_5 l1_6).bind fun t8=>(some t8)))))
theorem fQ67.clean (k:Nat) (a0_0:Bool) (a0_1:Int) (a0_2:Int) (l0_3:List (I_Term)) (a0_4:Int) (a0_5:Int) (l0_6:List (I_Term)) (a1_0:Bool) (a1_1:Int) (a1_2:Int) (l1_3:List (I_Term)) (a1_4:Int) (a1_5:Int) (l1_6:List (I_Term)):fQ67.raw k a0_0 a0_1 a0_2 l0_3 a0_4 a0_5 l0_6 a1_0 a1_1 a1_2 l1_3 a1_4 a1_5 l1_6=fQ67.f k a0_0 a0_1 a0_2 l0_3 a0_4 a0_5 l0_6 a1_0 a1_1 a1_2 l1_3 a1_4 a1_5 l1_6:=by
 rw [fQ67.raw,fQ67.f]
 exact Eq.trans (ite_nb _ _ _) (ite_congr rfl (fun h0=>Eq.trans (if_pos h0) (Eq.trans (ite_nb _ _ _) (ite_congr rfl (fun h1=>bind_cg fun t5=>(ite_ng _ _)) (fun h1=>rfl)))) (fun h0=>ite_congr rfl (fun h1=>rfl) (fun h1=>Eq.trans (if_neg h0) (bind_cg fun t3=>(ite_ng _ _)))))
theorem fQ67.chk (k:Nat) (x:TupT ST [.bool,.int .i64,.int .i64,.lst (.st 1),.int .i64,.int .i64,.lst (.st 1),.bool,.int .i64,.int .i64,.lst (.st 1),.int .i64,.int .i64,.lst (.st 1)]):runU TT (calF [] (fQ67.ents k)) (jmps fQ67.us k) (finK Tryz.f216 (retK TT (.one) [.int .i64])) Tryz.f216 none (canon (args0 0 (argL [.agg 7,.agg 7] [.bool,.int .i64,.int .i64,.lst (.st 1),.int .i64,.int .i64,.lst (.st 1),.bool,.int .i64,.int .i64,.lst (.st 1),.int .i64,.int .i64,.lst (.st 1)] x)) [])=fQ67.f k x.1 x.2.1 x.2.2.1 x.2.2.2.1 x.2.2.2.2.1 x.2.2.2.2.2.1 x.2.2.2.2.2.2.1 x.2.2.2.2.2.2.2.1 x.2.2.2.2.2.2.2.2.1 x.2.2.2.2.2.2.2.2.2.1 x.2.2.2.2.2.2.2.2.2.2.1 x.2.2.2.2.2.2.2.2.2.2.2.1 x.2.2.2.2.2.2.2.2.2.2.2.2.1 x.2.2.2.2.2.2.2.2.2.2.2.2.2:=Eq.trans (show _=fQ67.raw k x.1 x.2.1 x.2.2.1 x.2.2.2.1 x.2.2.2.2.1 x.2.2.2.2.2.1 x.2.2.2.2.2.2.1 x.2.2.2.2.2.2.2.1 x.2.2.2.2.2.2.2.2.1 x.2.2.2.2.2.2.2.2.2.1 x.2.2.2.2.2.2.2.2.2.2.1 x.2.2.2.2.2.2.2.2.2.2.2.1 x.2.2.2.2.2.2.2.2.2.2.2.2.1 x.2.2.2.2.2.2.2.2.2.2.2.2.2 by kernel_rfl) (fQ67.clean k x.1 x.2.1 x.2.2.1 x.2.2.2.1 x.2.2.2.2.1 x.2.2.2.2.2.1 x.2.2.2.2.2.2.1 x.2.2.2.2.2.2.2.1 x.2.2.2.2.2.2.2.2.1 x.2.2.2.2.2.2.2.2.2.1 x.2.2.2.2.2.2.2.2.2.2.1 x.2.2.2.2.2.2.2.2.2.2.2.1 x.2.2.2.2.2.2.2.2.2.2.2.2.1 x.2.2.2.2.2.2.2.2.2.2.2.2.2)
theorem fQ67.ok (k:Nat):EntOk Tryz.prog TT (fQ67.ent k):=
 fun_of tbl mixed 216 Tryz.f216 Tryz.func216 rfl (by kernel_rfl) [.agg 7,.agg 7] [.bool,.int .i64,.int .i64,.lst (.st 1),.int .i64,.int .i64,.lst (.st 1),.bool,.int .i64,.int .i64,.lst (.st 1),.int .i64,.int .i64,.lst (.st 1)] (.one) [.int .i64] (by kernel_rfl) [] fQ67.ents fQ67.us True.intro True.intro (fun k (x:TupT ST [.bool,.int .i64,.int .i64,.lst (.st 1),.int .i64,.int .i64,.lst (.st 1),.bool,.int .i64,.int .i64,.lst (.st 1),.int .i64,.int .i64,.lst (.st 1)])=>fQ67.f k x.1 x.2.1 x.2.2.1 x.2.2.2.1 x.2.2.2.2.1 x.2.2.2.2.2.1 x.2.2.2.2.2.2.1 x.2.2.2.2.2.2.2.1 x.2.2.2.2.2.2.2.2.1 x.2.2.2.2.2.2.2.2.2.1 x.2.2.2.2.2.2.2.2.2.2.1 x.2.2.2.2.2.2.2.2.2.2.2.1 x.2.2.2.2.2.2.2.2.2.2.2.2.1 x.2.2.2.2.2.2.2.2.2.2.2.2.2) fQ67.chk (fun k=>EntsOk.mk (And.intro (fQ21.ok k) True.intro) True.intro True.intro) k
noncomputable def fQ77.f (k:Nat) (a0_0:Bool) (a0_1:Int) (a0_2:Int) (l0_3:List (I_Term)) (a0_4:Int) (a0_5:Int) (l0_6:List (I_Term)) (a1_0:Bool) (a1_1:Int) (a1_2:Int) (l1_3:List (I_Term)) (a1_4:Int) (a1_5:Int) (l1_6:List (I_Term)):Option (Bool):=(fQ67.f k a0_0 a0_1 a0_2 l0_3 a0_4 a0_5 l0_6 a1_0 a1_1 a1_2 l1_3 a1_4 a1_5 l1_6).bind fun t1=>(some (decide (t1<0)))
@[reducible] noncomputable def fQ77.us:List (CutU TT (TupT ST [.bool])):=[]
noncomputable def fQ77.ent (k:Nat):Ent TT:=⟨112,[.agg 7,.agg 7],[.bool,.int .i64,.int .i64,.lst (.st 1),.int .i64,.int .i64,.lst (.st 1),.bool,.int .i64,.int .i64,.lst (.st 1),.int .i64,.int .i64,.lst (.st 1)],.one,[.bool],fun x=>fQ77.f k x.1 x.2.1 x.2.2.1 x.2.2.2.1 x.2.2.2.2.1 x.2.2.2.2.2.1 x.2.2.2.2.2.2.1 x.2.2.2.2.2.2.2.1 x.2.2.2.2.2.2.2.2.1 x.2.2.2.2.2.2.2.2.2.1 x.2.2.2.2.2.2.2.2.2.2.1 x.2.2.2.2.2.2.2.2.2.2.2.1 x.2.2.2.2.2.2.2.2.2.2.2.2.1 x.2.2.2.2.2.2.2.2.2.2.2.2.2⟩
noncomputable def fQ77.ents (k:Nat):Ents TT:=⟨[fQ67.ent k],[],[]⟩
theorem fQ77.chk (k:Nat) (x:TupT ST [.bool,.int .i64,.int .i64,.lst (.st 1),.int .i64,.int .i64,.lst (.st 1),.bool,.int .i64,.int .i64,.lst (.st 1),.int .i64,.int .i64,.lst (.st 1)]):runU TT (calF [] (fQ77.ents k)) (jmps fQ77.us k) (finK Tryz.f112 (retK TT (.one) [.bool])) Tryz.f112 none (canon (args0 0 (argL [.agg 7,.agg 7] [.bool,.int .i64,.int .i64,.lst (.st 1),.int .i64,.int .i64,.lst (.st 1),.bool,.int .i64,.int .i64,.lst (.st 1),.int .i64,.int .i64,.lst (.st 1)] x)) [])=fQ77.f k x.1 x.2.1 x.2.2.1 x.2.2.2.1 x.2.2.2.2.1 x.2.2.2.2.2.1 x.2.2.2.2.2.2.1 x.2.2.2.2.2.2.2.1 x.2.2.2.2.2.2.2.2.1 x.2.2.2.2.2.2.2.2.2.1 x.2.2.2.2.2.2.2.2.2.2.1 x.2.2.2.2.2.2.2.2.2.2.2.1 x.2.2.2.2.2.2.2.2.2.2.2.2.1 x.2.2.2.2.2.2.2.2.2.2.2.2.2:=by kernel_rfl
theorem fQ77.ok (k:Nat):EntOk Tryz.prog TT (fQ77.ent k):=
 fun_of tbl mixed 112 Tryz.f112 Tryz.func112 rfl (by kernel_rfl) [.agg 7,.agg 7] [.bool,.int .i64,.int .i64,.lst (.st 1),.int .i64,.int .i64,.lst (.st 1),.bool,.int .i64,.int .i64,.lst (.st 1),.int .i64,.int .i64,.lst (.st 1)] (.one) [.bool] (by kernel_rfl) [] fQ77.ents fQ77.us True.intro True.intro (fun k (x:TupT ST [.bool,.int .i64,.int .i64,.lst (.st 1),.int .i64,.int .i64,.lst (.st 1),.bool,.int .i64,.int .i64,.lst (.st 1),.int .i64,.int .i64,.lst (.st 1)])=>fQ77.f k x.1 x.2.1 x.2.2.1 x.2.2.2.1 x.2.2.2.2.1 x.2.2.2.2.2.1 x.2.2.2.2.2.2.1 x.2.2.2.2.2.2.2.1 x.2.2.2.2.2.2.2.2.1 x.2.2.2.2.2.2.2.2.2.1 x.2.2.2.2.2.2.2.2.2.2.1 x.2.2.2.2.2.2.2.2.2.2.2.1 x.2.2.2.2.2.2.2.2.2.2.2.2.1 x.2.2.2.2.2.2.2.2.2.2.2.2.2) fQ77.chk (fun k=>EntsOk.mk (And.intro (fQ67.ok k) True.intro) True.intro True.intro) k
noncomputable def fQ45.l0:Nat→List (I_Sym)→List (I_Lit)→Int→Int→List (I_Lit)→Option (Bool)
 | 0,_,_,_,_,_=>none
 | k+1,x0,x8,x9,x10,b3_0=>if x10<x9 then (if 0≤x10 then (if x10<(x8.length:Int) then ((fQ91.f k x0 ((rd_I_Lit x8 x10).f0) ((rd_I_Lit x8 x10).f1.f0) ((rd_I_Lit x8 x10).f1.f1) ((rd_I_Lit x8 x10).f1.f2) ((rd_I_Lit x8 x10).f2.f0) ((rd_I_Lit x8 x10).f2.f1) ((rd_I_Lit x8 x10).f2.f2)).bind fun t1=>(if t1=true then (if x10>0 then (if 0≤(wrap64 (x10 - 1)) then (if (wrap64 (x10 - 1))<(b3_0.length:Int) then ((fQ77.f k ((rd_I_Lit b3_0 (wrap64 (x10 - 1))).f0) ((rd_I_Lit b3_0 (wrap64 (x10 - 1))).f1.f0) ((rd_I_Lit b3_0 (wrap64 (x10 - 1))).f1.f1) ((rd_I_Lit b3_0 (wrap64 (x10 - 1))).f1.f2) ((rd_I_Lit b3_0 (wrap64 (x10 - 1))).f2.f0) ((rd_I_Lit b3_0 (wrap64 (x10 - 1))).f2.f1) ((rd_I_Lit b3_0 (wrap64 (x10 - 1))).f2.f2) ((rd_I_Lit x8 x10).f0) ((rd_I_Lit x8 x10).f1.f0) ((rd_I_Lit x8 x10).f1.f1) ((rd_I_Lit x8 x10).f1.f2) ((rd_I_Lit x8 x10).f2.f0) ((rd_I_Lit x8 x10).f2.f1) ((rd_I_Lit x8 x10).f2.f2)).bind fun t2=>(if t2=true then (fQ45.l0 k x0 x8 x9 (wrap64 (x10+1)) b3_0) else (some false))) else none) else none) else (fQ45.l0 k x0 x8 x9 (wrap64 (x10+1)) b3_0)) else (some false))) else none) else none) else (some (decide ((b3_0.length:Int)≤8)))
noncomputable def fQ45.f (k:Nat) (l0:List (I_Sym)) (l1_0:List (I_Lit)):Option (Bool):=fQ45.l0 k l0 l1_0 (l1_0.length:Int) 0 l1_0
noncomputable def fQ45.l0.c:Cut:=⟨[0,8],[(3,0)],[(0,.one),(3,.ptr 3 0),(8,.one),(9,.one),(10,.one)],[(3,[.one])],[],[.lst (.st 0),.lst (.st 3),.int .i64,.int .i64,.lst (.st 3)]⟩
@[reducible] noncomputable def fQ45.us:List (CutU TT (TupT ST [.bool])):=[⟨2,fQ45.l0.c,fun k x=>fQ45.l0 k x.1 x.2.1 x.2.2.1 x.2.2.2.1 x.2.2.2.2⟩]
noncomputable def fQ45.ent (k:Nat):Ent TT:=⟨34,[.one,.agg 1],[.lst (.st 0),.lst (.st 3)],.one,[.bool],fun x=>fQ45.f k x.1 x.2⟩
noncomputable def fQ45.ents (k:Nat):Ents TT:=⟨[fQ91.ent k,fQ77.ent k],[],[]⟩
noncomputable def fQ45.l0.raw (k:Nat) (x0:List (I_Sym)) (x8:List (I_Lit)) (x9:Int) (x10:Int) (b3_0:List (I_Lit)):Option (Bool):=if x10<x9 then (if 0≤x10 then (if x10<(x8.length:Int) then ((fQ91.f k x0 ((rd_I_Lit x8 x10).f0) ((rd_I_Lit x8 x10).f1.f0) ((rd_I_Lit x8 x10).f1.f1) ((rd_I_Lit x8 x10).f1.f2) ((rd_I_Lit x8 x10).f2.f0) ((rd_I_Lit x8 x10).f2.f1) ((rd_I_Lit x8 x10).f2.f2)).bind fun t1=>(if (!t1)=true then (some false) else (if x10>0 then (if 0≤(wr .i64 (x10 - 1)) then (if (wr .i64 (x10 - 1))<(b3_0.length:Int) then ((fQ77.f k ((rd_I_Lit b3_0 (wr .i64 (x10 - 1))).f0) ((rd_I_Lit b3_0 (wr .i64 (x10 - 1))).f1.f0) ((rd_I_Lit b3_0 (wr .i64 (x10 - 1))).f1.f1) ((rd_I_Lit b3_0 (wr .i64 (x10 - 1))).f1.f2) ((rd_I_Lit b3_0 (wr .i64 (x10 - 1))).f2.f0) ((rd_I_Lit b3_0 (wr .i64 (x10 - 1))).f2.f1) ((rd_I_Lit b3_0 (wr .i64 (x10 - 1))).f2.f2) ((rd_I_Lit x8 x10).f0) ((rd_I_Lit x8 x10).f1.f0) ((rd_I_Lit x8 x10).f1.f1) ((rd_I_Lit x8 x10).f1.f2) ((rd_I_Lit x8 x10).f2.f0) ((rd_I_Lit x8 x10).f2.f1) ((rd_I_Lit x8 x10).f2.f2)).bind fun t2=>(if (!t2)=true then (some false) else (fQ45.l0 k x0 x8 x9 (wr .i64 (x10+1)) b3_0))) else none) else none) else (fQ45.l0 k x0 x8 x9 (wr .i64 (x10+1)) b3_0)))) else none) else none) else (some (decide ((b3_0.length:Int)≤8)))
theorem fQ45.l0.clean (k:Nat) (x0:List (I_Sym)) (x8:List (I_Lit)) (x9:Int) (x10:Int) (b3_0:List (I_Lit)):fQ45.l0.raw k x0 x8 x9 x10 b3_0=fQ45.l0 (k+1) x0 x8 x9 x10 b3_0:=by
 rw [fQ45.l0.raw,fQ45.l0]
 simp only [wr_i64]
 exact ite_congr rfl (fun h0=>ite_congr rfl (fun h1=>ite_congr rfl (fun h2=>bind_cg fun t1=>(Eq.trans (ite_nb _ _ _) (ite_congr rfl (fun h3=>ite_congr rfl (fun h4=>ite_congr rfl (fun h5=>ite_congr rfl (fun h6=>bind_cg fun t2=>(ite_nb _ _ _)) (fun h6=>rfl)) (fun h5=>rfl)) (fun h4=>rfl)) (fun h3=>rfl)))) (fun h2=>rfl)) (fun h1=>rfl)) (fun h0=>rfl)
theorem fQ45.l0.chk (k:Nat) (x:TupT ST [.lst (.st 0),.lst (.st 3),.int .i64,.int .i64,.lst (.st 3)]):runU TT (calF [] (fQ45.ents k)) (jmps fQ45.us k) (finK Tryz.f34 (retK TT (.one) [.bool])) Tryz.f34 (some 2) (canonC fQ45.l0.c x)=fQ45.l0 (k+1) x.1 x.2.1 x.2.2.1 x.2.2.2.1 x.2.2.2.2:=Eq.trans (show _=fQ45.l0.raw k x.1 x.2.1 x.2.2.1 x.2.2.2.1 x.2.2.2.2 by kernel_rfl) (fQ45.l0.clean k x.1 x.2.1 x.2.2.1 x.2.2.2.1 x.2.2.2.2)
theorem fQ45.chk (k:Nat) (x:TupT ST [.lst (.st 0),.lst (.st 3)]):runU TT (calF [] (fQ45.ents k)) (jmps fQ45.us k) (finK Tryz.f34 (retK TT (.one) [.bool])) Tryz.f34 none (canon (args0 0 (argL [.one,.agg 1] [.lst (.st 0),.lst (.st 3)] x)) [])=fQ45.f k x.1 x.2:=by kernel_rfl
theorem fQ45.ok (k:Nat):EntOk Tryz.prog TT (fQ45.ent k):=
 fun_of tbl mixed 34 Tryz.f34 Tryz.func34 rfl (by kernel_rfl) [.one,.agg 1] [.lst (.st 0),.lst (.st 3)] (.one) [.bool] (by kernel_rfl) [] fQ45.ents fQ45.us (And.intro (fun _=>rfl) True.intro) (And.intro fQ45.l0.chk True.intro) (fun k (x:TupT ST [.lst (.st 0),.lst (.st 3)])=>fQ45.f k x.1 x.2) fQ45.chk (fun k=>EntsOk.mk (And.intro (fQ91.ok k) (And.intro (fQ77.ok k) True.intro)) True.intro True.intro) k
noncomputable def fQ28.f (a1:Int):Option ((List (Int))):=if a1<0 then none else (if (wrap64 (a1 - (wrap64 (0 - 0))))>0 then (if 0<(wrap64 (a1 - (wrap64 (0 - 0)))) then (if (wrap64 (a1 - (wrap64 (0 - 0))))≤(1599289640401:Int) then (if 0≤((List.replicate (wrap64 (a1 - (wrap64 (0 - 0))):Int).toNat 0).length:Int) then (some ((List.replicate (wrap64 (a1 - (wrap64 (0 - 0))):Int).toNat 0).take (0:Int).toNat)) else none) else none) else none) else (some []))
noncomputable def fQ28.pin:Cut:=⟨[],[],[(0,.nil),(1,.one)],[],[],[.int .i64]⟩
noncomputable def fQ28.pout:Cut:=⟨[],[],[(4,.own 22)],[],[(22,.int .i64)],[.lst (.int .i64)]⟩
@[reducible] noncomputable def fQ28.us:List (CutU TT (TupT ST fQ28.pout.es)):=[]
noncomputable def fQ28.ent:Ent2 TT:=⟨228,2,fQ28.pin,fQ28.pout,Tryz.f228.results.toList,fun x=>fQ28.f x⟩
noncomputable def fQ28.ents (k:Nat):Ents TT:=⟨[],[],[]⟩
noncomputable def fQ28.raw (k:Nat) (a1:Int):Option ((List (Int))):=if a1<0 then none else (if (wr .i64 (a1 - (wr .i64 (0 - 0))))>0 then (if 0<(wr .i64 (a1 - (wr .i64 (0 - 0)))) then (if (wr .i64 (a1 - (wr .i64 (0 - 0))))≤(1599289640401:Int) then (if (0:Int)≤0 then (if 0≤((List.replicate (wr .i64 (a1 - (wr .i64 (0 - 0))):Int).toNat 0).length:Int) then (some ((List.replicate (wr .i64 (a1 - (wr .i64 (0 - 0))):Int).toNat 0).take (0:Int).toNat)) else none) else none) else none) else none) else (some []))
theorem fQ28.clean (k:Nat) (a1:Int):fQ28.raw k a1=fQ28.f a1:=by
 rw [fQ28.raw,fQ28.f]
 simp only [wr_i64]
 exact ite_congr rfl (fun h0=>rfl) (fun h0=>ite_congr rfl (fun h1=>ite_congr rfl (fun h2=>ite_congr rfl (fun h3=>if_pos (by decide)) (fun h3=>rfl)) (fun h2=>rfl)) (fun h1=>rfl))
theorem fQ28.chk (k:Nat) (x:TupT ST fQ28.pin.es):runU TT (calF [] (fQ28.ents k)) (jmps fQ28.us k) (finC fQ28.pout Tryz.f228.results.toList) Tryz.f228 none (canonC fQ28.pin x)=fQ28.f x:=Eq.trans (show _=fQ28.raw k x by kernel_rfl) (fQ28.clean k x)
theorem fQ28.ok:Ent2Ok Tryz.prog TT (fQ28.ent):=
 fun_of2 tbl mixed 228 Tryz.f228 Tryz.func228 rfl (by kernel_rfl) 2 fQ28.pin fQ28.pout (by kernel_rfl) [] fQ28.ents fQ28.us True.intro True.intro (fun k (x:TupT ST fQ28.pin.es)=>fQ28.f x) fQ28.chk (fun k=>EntsOk.mk True.intro True.intro True.intro) 0
mutual
noncomputable def fQ10.l0:Nat→List (List (Int))→Int→List (List (Int))→Int→Int→Option ((List (Int)))
 | 0,_,_,_,_,_=>none
 | k+1,x0,x3,x9,x10,x11=>if x11<x10 then (if 0≤x11 then (if x11<(x9.length:Int) then (if (wrap64 (x3+((rd_Ls_i64 x9 x11).length:Int)))<0 then none else (fQ10.l0 k x0 (wrap64 (x3+((rd_Ls_i64 x9 x11).length:Int))) x9 x10 (wrap64 (x11+1)))) else none) else none) else ((fQ28.f x3).bind fun t1=>(fQ10.l1 k t1 x0 (x0.length:Int) 0))
noncomputable def fQ10.l1:Nat→List (Int)→List (List (Int))→Int→Int→Option ((List (Int)))
 | 0,_,_,_,_=>none
 | k+1,x6,x25,x26,x27=>if x27<x26 then (if 0≤x27 then (if x27<(x25.length:Int) then (if x6.length+(rd_Ls_i64 x25 x27).length≤1599289640401 then (fQ10.l1 k (x6++(rd_Ls_i64 x25 x27)) x25 x26 (wrap64 (x27+1))) else none) else none) else none) else (some x6)
end
noncomputable def fQ10.f (k:Nat) (l0:List (List (Int))):Option ((List (Int))):=fQ10.l0 k l0 0 l0 (l0.length:Int) 0
noncomputable def fQ10.l0.c:Cut:=⟨[0,9],[],[(0,.one),(3,.one),(9,.one),(10,.one),(11,.one)],[],[],[.lst (.lst (.int .i64)),.int .i64,.lst (.lst (.int .i64)),.int .i64,.int .i64]⟩
noncomputable def fQ10.l1.c:Cut:=⟨[25],[],[(6,.own 1507353),(25,.one),(26,.one),(27,.one)],[],[(1507353,.int .i64)],[.lst (.lst (.int .i64)),.int .i64,.int .i64,.lst (.int .i64)]⟩
@[reducible] noncomputable def fQ10.us:List (CutU TT (TupT ST [.lst (.int .i64)])):=[⟨3,fQ10.l0.c,fun k x=>fQ10.l0 k x.1 x.2.1 x.2.2.1 x.2.2.2.1 x.2.2.2.2⟩,⟨11,fQ10.l1.c,fun k x=>fQ10.l1 k x.2.2.2 x.1 x.2.1 x.2.2.1⟩]
noncomputable def fQ10.ent (k:Nat):Ent TT:=⟨113,[.one],[.lst (.lst (.int .i64))],.one,[.lst (.int .i64)],fun x=>fQ10.f k x⟩
noncomputable def fQ10.ents (k:Nat):Ents TT:=⟨[],[fQ28.ent],[]⟩
noncomputable def fQ10.l0.raw (k:Nat) (x0:List (List (Int))) (x3:Int) (x9:List (List (Int))) (x10:Int) (x11:Int):Option ((List (Int))):=if x11<x10 then (if 0≤x11 then (if x11<(x9.length:Int) then (if (wr .i64 (x3+((rd_Ls_i64 x9 x11).length:Int)))<0 then none else (fQ10.l0 k x0 (wr .i64 (x3+((rd_Ls_i64 x9 x11).length:Int))) x9 x10 (wr .i64 (x11+1)))) else none) else none) else ((fQ28.f x3).bind fun t1=>(fQ10.l1 k t1 x0 (x0.length:Int) 0))
theorem fQ10.l0.clean (k:Nat) (x0:List (List (Int))) (x3:Int) (x9:List (List (Int))) (x10:Int) (x11:Int):fQ10.l0.raw k x0 x3 x9 x10 x11=fQ10.l0 (k+1) x0 x3 x9 x10 x11:=by
 rw [fQ10.l0.raw,fQ10.l0]
 simp only [wr_i64]
theorem fQ10.l0.chk (k:Nat) (x:TupT ST [.lst (.lst (.int .i64)),.int .i64,.lst (.lst (.int .i64)),.int .i64,.int .i64]):runU TT (calF [] (fQ10.ents k)) (jmps fQ10.us k) (finK Tryz.f113 (retK TT (.one) [.lst (.int .i64)])) Tryz.f113 (some 3) (canonC fQ10.l0.c x)=fQ10.l0 (k+1) x.1 x.2.1 x.2.2.1 x.2.2.2.1 x.2.2.2.2:=Eq.trans (show _=fQ10.l0.raw k x.1 x.2.1 x.2.2.1 x.2.2.2.1 x.2.2.2.2 by kernel_rfl) (fQ10.l0.clean k x.1 x.2.1 x.2.2.1 x.2.2.2.1 x.2.2.2.2)
noncomputable def fQ10.l1.raw (k:Nat) (x6:List (Int)) (x25:List (List (Int))) (x26:Int) (x27:Int):Option ((List (Int))):=if x27<x26 then (if 0≤x27 then (if x27<(x25.length:Int) then (if x6.length+(rd_Ls_i64 x25 x27).length≤1599289640401 then (fQ10.l1 k (x6++(rd_Ls_i64 x25 x27)) x25 x26 (wr .i64 (x27+1))) else none) else none) else none) else (some x6)
theorem fQ10.l1.clean (k:Nat) (x6:List (Int)) (x25:List (List (Int))) (x26:Int) (x27:Int):fQ10.l1.raw k x6 x25 x26 x27=fQ10.l1 (k+1) x6 x25 x26 x27:=by
 rw [fQ10.l1.raw,fQ10.l1]
 simp only [wr_i64]
theorem fQ10.l1.chk (k:Nat) (x:TupT ST [.lst (.lst (.int .i64)),.int .i64,.int .i64,.lst (.int .i64)]):runU TT (calF [] (fQ10.ents k)) (jmps fQ10.us k) (finK Tryz.f113 (retK TT (.one) [.lst (.int .i64)])) Tryz.f113 (some 11) (canonC fQ10.l1.c x)=fQ10.l1 (k+1) x.2.2.2 x.1 x.2.1 x.2.2.1:=Eq.trans (show _=fQ10.l1.raw k x.2.2.2 x.1 x.2.1 x.2.2.1 by kernel_rfl) (fQ10.l1.clean k x.2.2.2 x.1 x.2.1 x.2.2.1)
theorem fQ10.chk (k:Nat) (x:TupT ST [.lst (.lst (.int .i64))]):runU TT (calF [] (fQ10.ents k)) (jmps fQ10.us k) (finK Tryz.f113 (retK TT (.one) [.lst (.int .i64)])) Tryz.f113 none (canon (args0 0 (argL [.one] [.lst (.lst (.int .i64))] x)) [])=fQ10.f k x:=by kernel_rfl
theorem fQ10.ok (k:Nat):EntOk Tryz.prog TT (fQ10.ent k):=
 fun_of tbl mixed 113 Tryz.f113 Tryz.func113 rfl (by kernel_rfl) [.one] [.lst (.lst (.int .i64))] (.one) [.lst (.int .i64)] (by kernel_rfl) [] fQ10.ents fQ10.us (And.intro (fun _=>rfl) (And.intro (fun _=>rfl) True.intro)) (And.intro fQ10.l0.chk (And.intro fQ10.l1.chk True.intro)) (fun k (x:TupT ST [.lst (.lst (.int .i64))])=>fQ10.f k x) fQ10.chk (fun k=>EntsOk.mk True.intro (And.intro fQ28.ok True.intro) True.intro) k
noncomputable def fQ29.l0:Nat→List (Int)→Int→Int→Int→Option (Int)
 | 0,_,_,_,_=>none
 | k+1,x0,x1,x7,x8=>if x8<x7 then (if 0≤x8 then (if x8<(x0.length:Int) then (if x1=(rd x0 x8) then (some x8) else (fQ29.l0 k x0 x1 x7 (wrap64 (x8+1)))) else none) else none) else (some (-1))
noncomputable def fQ29.f (k:Nat) (l0:List (Int)) (a1:Int):Option (Int):=fQ29.l0 k l0 a1 (l0.length:Int) 0
noncomputable def fQ29.l0.c:Cut:=⟨[0],[],[(0,.one),(1,.one),(7,.one),(8,.one)],[],[],[.lst (.int .i64),.int .i64,.int .i64,.int .i64]⟩
@[reducible] noncomputable def fQ29.us:List (CutU TT (TupT ST [.int .i64])):=[⟨2,fQ29.l0.c,fun k x=>fQ29.l0 k x.1 x.2.1 x.2.2.1 x.2.2.2⟩]
noncomputable def fQ29.ent (k:Nat):Ent TT:=⟨154,[.one,.one],[.lst (.int .i64),.int .i64],.one,[.int .i64],fun x=>fQ29.f k x.1 x.2⟩
noncomputable def fQ29.ents (k:Nat):Ents TT:=⟨[],[],[]⟩
noncomputable def fQ29.l0.raw (k:Nat) (x0:List (Int)) (x1:Int) (x7:Int) (x8:Int):Option (Int):=if x8<x7 then (if 0≤x8 then (if x8<(x0.length:Int) then (if x1=(rd x0 x8) then (some x8) else (fQ29.l0 k x0 x1 x7 (wr .i64 (x8+1)))) else none) else none) else (some (-1))
theorem fQ29.l0.clean (k:Nat) (x0:List (Int)) (x1:Int) (x7:Int) (x8:Int):fQ29.l0.raw k x0 x1 x7 x8=fQ29.l0 (k+1) x0 x1 x7 x8:=by
 rw [fQ29.l0.raw,fQ29.l0]
 simp only [wr_i64]
theorem fQ29.l0.chk (k:Nat) (x:TupT ST [.lst (.int .i64),.int .i64,.int .i64,.int .i64]):runU TT (calF [] (fQ29.ents k)) (jmps fQ29.us k) (finK Tryz.f154 (retK TT (.one) [.int .i64])) Tryz.f154 (some 2) (canonC fQ29.l0.c x)=fQ29.l0 (k+1) x.1 x.2.1 x.2.2.1 x.2.2.2:=Eq.trans (show _=fQ29.l0.raw k x.1 x.2.1 x.2.2.1 x.2.2.2 by kernel_rfl) (fQ29.l0.clean k x.1 x.2.1 x.2.2.1 x.2.2.2)
theorem fQ29.chk (k:Nat) (x:TupT ST [.lst (.int .i64),.int .i64]):runU TT (calF [] (fQ29.ents k)) (jmps fQ29.us k) (finK Tryz.f154 (retK TT (.one) [.int .i64])) Tryz.f154 none (canon (args0 0 (argL [.one,.one] [.lst (.int .i64),.int .i64] x)) [])=fQ29.f k x.1 x.2:=by kernel_rfl
theorem fQ29.ok (k:Nat):EntOk Tryz.prog TT (fQ29.ent k):=
 fun_of tbl mixed 154 Tryz.f154 Tryz.func154 rfl (by kernel_rfl) [.one,.one] [.lst (.int .i64),.int .i64] (.one) [.int .i64] (by kernel_rfl) [] fQ29.ents fQ29.us (And.intro (fun _=>rfl) True.intro) (And.intro fQ29.l0.chk True.intro) (fun k (x:TupT ST [.lst (.int .i64),.int .i64])=>fQ29.f k x.1 x.2) fQ29.chk (fun k=>EntsOk.mk True.intro True.intro True.intro) k
noncomputable def fQ64.f (k:Nat) (l0:List (Int)) (a1:Int):Option (Bool):=(fQ29.f k l0 a1).bind fun t1=>(some (decide (t1≥0)))
@[reducible] noncomputable def fQ64.us:List (CutU TT (TupT ST [.bool])):=[]
noncomputable def fQ64.ent (k:Nat):Ent TT:=⟨151,[.one,.one],[.lst (.int .i64),.int .i64],.one,[.bool],fun x=>fQ64.f k x.1 x.2⟩
noncomputable def fQ64.ents (k:Nat):Ents TT:=⟨[fQ29.ent k],[],[]⟩
theorem fQ64.chk (k:Nat) (x:TupT ST [.lst (.int .i64),.int .i64]):runU TT (calF [] (fQ64.ents k)) (jmps fQ64.us k) (finK Tryz.f151 (retK TT (.one) [.bool])) Tryz.f151 none (canon (args0 0 (argL [.one,.one] [.lst (.int .i64),.int .i64] x)) [])=fQ64.f k x.1 x.2:=by kernel_rfl
theorem fQ64.ok (k:Nat):EntOk Tryz.prog TT (fQ64.ent k):=
 fun_of tbl mixed 151 Tryz.f151 Tryz.func151 rfl (by kernel_rfl) [.one,.one] [.lst (.int .i64),.int .i64] (.one) [.bool] (by kernel_rfl) [] fQ64.ents fQ64.us True.intro True.intro (fun k (x:TupT ST [.lst (.int .i64),.int .i64])=>fQ64.f k x.1 x.2) fQ64.chk (fun k=>EntsOk.mk (And.intro (fQ29.ok k) True.intro) True.intro True.intro) k
noncomputable def fQ96.f (k:Nat) (l0:List (Int)) (a1:Int):Option (Bool):=(fQ64.f k l0 a1).bind fun t1=>(some t1)
@[reducible] noncomputable def fQ96.us:List (CutU TT (TupT ST [.bool])):=[]
noncomputable def fQ96.ent (k:Nat):Ent TT:=⟨204,[.one,.one],[.lst (.int .i64),.int .i64],.one,[.bool],fun x=>fQ96.f k x.1 x.2⟩
noncomputable def fQ96.ents (k:Nat):Ents TT:=⟨[fQ64.ent k],[],[]⟩
theorem fQ96.chk (k:Nat) (x:TupT ST [.lst (.int .i64),.int .i64]):runU TT (calF [] (fQ96.ents k)) (jmps fQ96.us k) (finK Tryz.f204 (retK TT (.one) [.bool])) Tryz.f204 none (canon (args0 0 (argL [.one,.one] [.lst (.int .i64),.int .i64] x)) [])=fQ96.f k x.1 x.2:=by kernel_rfl
theorem fQ96.ok (k:Nat):EntOk Tryz.prog TT (fQ96.ent k):=
 fun_of tbl mixed 204 Tryz.f204 Tryz.func204 rfl (by kernel_rfl) [.one,.one] [.lst (.int .i64),.int .i64] (.one) [.bool] (by kernel_rfl) [] fQ96.ents fQ96.us True.intro True.intro (fun k (x:TupT ST [.lst (.int .i64),.int .i64])=>fQ96.f k x.1 x.2) fQ96.chk (fun k=>EntsOk.mk (And.intro (fQ64.ok k) True.intro) True.intro True.intro) k
noncomputable def fQ36.f (l0:List (Int)):Option (List (Int)):=if 0+l0.length≤1599289640401 then some l0 else none
noncomputable def fQ36.pin:Cut:=⟨[0],[],[(0,.one)],[],[],[.lst (.int .i64)]⟩
noncomputable def fQ36.pout:Cut:=⟨[],[],[(2,.own 5)],[],[(5,.int .i64)],[.lst (.int .i64)]⟩
noncomputable def fQ36.c:Cut:=⟨[0],[],[(0,.one)],[],[],[.lst (.int .i64)]⟩
noncomputable def fQ36.ent:Ent2 TT:=⟨231,1,fQ36.pin,fQ36.pout,Tryz.f231.results.toList,fun x=>fQ36.f x⟩
noncomputable def fQ36.op (i : Nat) : Oper := match codeAt (Tryz.f231.body.getD .skip) [true, false, false] with | .region _ ops _ => (match ops.toList.drop i with | a :: _ => a | [] => ⟨none, .move (.tmp 0), 0, "", #[], none⟩) | _ => ⟨none, .move (.tmp 0), 0, "", #[], none⟩
theorem fQ36.way1 (x:List (Int)):arun TT (calOf ⟨[],[],[]⟩) (fun _=>none) (finC fQ36.pout Tryz.f231.results.toList) Tryz.f231.ntmps (Tryz.f231.body.getD .skip) 100000 false [.code [true,false,true],.code [true,true]] ⟨upd (upd (canonC (T:=TT) fQ36.c x).f 3 ((canonC (T:=TT) fQ36.c x).f 0)) 4 (.lit true),(canonC (T:=TT) fQ36.c x).h⟩=some ([]:List (Int)):=by kernel_rfl
theorem fQ36.way2 (x:List (Int)):arun TT (calOf ⟨[],[],[]⟩) (fun _=>none) (finC fQ36.pout Tryz.f231.results.toList) Tryz.f231.ntmps (Tryz.f231.body.getD .skip) 100000 false [.code [true,false,true],.code [true,true]] ⟨upd (upd (canonC (T:=TT) fQ36.c x).f 3 ((canonC (T:=TT) fQ36.c x).f 0)) 4 (.lit false),(canonC (T:=TT) fQ36.c x).h⟩=fQ36.f x:=by kernel_rfl
theorem fQ36.ok:Ent2Ok Tryz.prog TT fQ36.ent:=
 fun_nil2 tbl mixed 231 Tryz.f231 (body:=(Tryz.f231.body.getD .skip)) Tryz.func231 (by kernel_rfl) (by kernel_rfl) 1 fQ36.pin fQ36.pout (by kernel_rfl) 1 fQ36.c (fun x=>fQ36.f x) [true,false,false] [.code [true,false,true],.code [true,true]] (by kernel_rfl) (fQ36.op 0) (fQ36.op 1) 0 3 4 59 59 3 (by kernel_rfl) (by kernel_rfl) (by kernel_rfl) (by kernel_rfl) (by kernel_rfl) (by kernel_rfl) (by kernel_rfl) (by kernel_rfl) (by kernel_rfl) (by kernel_rfl) (.int .i64) (fun x=>x) (fun _=>rfl) (fun x y h0 h=>by have h0:x=([]:List (Int)):=h0;subst h0;exact (fQ36.way1 []).trans ((show some ([]:List (Int))=fQ36.f [] from rfl).trans h)) (fun x y h=>(fQ36.way2 x).trans h) (fun x=>fQ36.f x) (fun (x:List (Int))=>by kernel_rfl)
noncomputable def fQ59.f (a0:Int) (c0_0:Int):Option (Bool×Int):=some (decide (a0>c0_0),c0_0)
noncomputable def fQ59.pin:Cut:=⟨[],[],[(0,.one),(1,.ptr 1073741824 0)],[(1073741824,[.one])],[],[.int .i64,.int .i64]⟩
noncomputable def fQ59.pout:Cut:=⟨[],[],[(3,.one)],[(1073741824,[.one])],[],[.bool,.int .i64]⟩
@[reducible] noncomputable def fQ59.us:List (CutU TT (TupT ST fQ59.pout.es)):=[]
noncomputable def fQ59.ent:Ent2 TT:=⟨233,2,fQ59.pin,fQ59.pout,Tryz.f233.results.toList,fun x=>fQ59.f x.1 x.2⟩
noncomputable def fQ59.ents (k:Nat):Ents TT:=⟨[],[],[]⟩
theorem fQ59.chk (k:Nat) (x:TupT ST fQ59.pin.es):runU TT (calF [] (fQ59.ents k)) (jmps fQ59.us k) (finC fQ59.pout Tryz.f233.results.toList) Tryz.f233 none (canonC fQ59.pin x)=fQ59.f x.1 x.2:=by kernel_rfl
theorem fQ59.ok:Ent2Ok Tryz.prog TT (fQ59.ent):=
 fun_of2 tbl mixed 233 Tryz.f233 Tryz.func233 rfl (by kernel_rfl) 2 fQ59.pin fQ59.pout (by kernel_rfl) [] fQ59.ents fQ59.us True.intro True.intro (fun k (x:TupT ST fQ59.pin.es)=>fQ59.f x.1 x.2) fQ59.chk (fun k=>EntsOk.mk True.intro True.intro True.intro) 0
noncomputable def fQ3.l0:Nat→List (Int)→Int→Int→Int→Option (Int×Int)
 | 0,_,_,_,_=>none
 | k+1,x0,x7,x8,b1073741824_0=>if x8<x7 then (if 0≤x8 then (if x8<(x0.length:Int) then ((fQ59.f (rd x0 x8) b1073741824_0).bind fun t1=>(if t1.1=true then (some (x8,t1.2)) else (fQ3.l0 k x0 x7 (wrap64 (x8+1)) t1.2))) else none) else none) else (some ((-1),b1073741824_0))
noncomputable def fQ3.f (k:Nat) (l0:List (Int)) (c0_0:Int):Option (Int×Int):=fQ3.l0 k l0 (l0.length:Int) 0 c0_0
noncomputable def fQ3.pin:Cut:=⟨[0],[],[(0,.one),(1,.clo 233 [.ptr 1073741824 0])],[(1073741824,[.one])],[],[.lst (.int .i64),.int .i64]⟩
noncomputable def fQ3.pout:Cut:=⟨[],[],[(4,.one)],[(1073741824,[.one])],[],[.int .i64,.int .i64]⟩
noncomputable def fQ3.l0.c:Cut:=⟨[0],[],[(0,.one),(1,.clo 233 [.ptr 1073741824 0]),(7,.one),(8,.one)],[(1073741824,[.one])],[],[.lst (.int .i64),.int .i64,.int .i64,.int .i64]⟩
@[reducible] noncomputable def fQ3.us:List (CutU TT (TupT ST fQ3.pout.es)):=[⟨2,fQ3.l0.c,fun k x=>fQ3.l0 k x.1 x.2.1 x.2.2.1 x.2.2.2⟩]
noncomputable def fQ3.ent (k:Nat):Ent2 TT:=⟨232,2,fQ3.pin,fQ3.pout,Tryz.f232.results.toList,fun x=>fQ3.f k x.1 x.2⟩
noncomputable def fQ3.ents (k:Nat):Ents TT:=⟨[],[fQ59.ent],[]⟩
noncomputable def fQ3.l0.raw (k:Nat) (x0:List (Int)) (x7:Int) (x8:Int) (b1073741824_0:Int):Option (Int×Int):=if x8<x7 then (if 0≤x8 then (if x8<(x0.length:Int) then ((fQ59.f (rd x0 x8) b1073741824_0).bind fun t1=>(if t1.1=true then (some (x8,t1.2)) else (fQ3.l0 k x0 x7 (wr .i64 (x8+1)) t1.2))) else none) else none) else (some ((-1),b1073741824_0))
theorem fQ3.l0.clean (k:Nat) (x0:List (Int)) (x7:Int) (x8:Int) (b1073741824_0:Int):fQ3.l0.raw k x0 x7 x8 b1073741824_0=fQ3.l0 (k+1) x0 x7 x8 b1073741824_0:=by
 rw [fQ3.l0.raw,fQ3.l0]
 simp only [wr_i64]
theorem fQ3.l0.chk (k:Nat) (x:TupT ST [.lst (.int .i64),.int .i64,.int .i64,.int .i64]):runU TT (calF [] (fQ3.ents k)) (jmps fQ3.us k) (finC fQ3.pout Tryz.f232.results.toList) Tryz.f232 (some 2) (canonC fQ3.l0.c x)=fQ3.l0 (k+1) x.1 x.2.1 x.2.2.1 x.2.2.2:=Eq.trans (show _=fQ3.l0.raw k x.1 x.2.1 x.2.2.1 x.2.2.2 by kernel_rfl) (fQ3.l0.clean k x.1 x.2.1 x.2.2.1 x.2.2.2)
theorem fQ3.chk (k:Nat) (x:TupT ST fQ3.pin.es):runU TT (calF [] (fQ3.ents k)) (jmps fQ3.us k) (finC fQ3.pout Tryz.f232.results.toList) Tryz.f232 none (canonC fQ3.pin x)=fQ3.f k x.1 x.2:=by kernel_rfl
theorem fQ3.ok (k:Nat):Ent2Ok Tryz.prog TT (fQ3.ent k):=
 fun_of2 tbl mixed 232 Tryz.f232 Tryz.func232 rfl (by kernel_rfl) 2 fQ3.pin fQ3.pout (by kernel_rfl) [] fQ3.ents fQ3.us (And.intro (fun _=>rfl) True.intro) (And.intro fQ3.l0.chk True.intro) (fun k (x:TupT ST fQ3.pin.es)=>fQ3.f k x.1 x.2) fQ3.chk (fun k=>EntsOk.mk True.intro (And.intro fQ59.ok True.intro) True.intro) k
noncomputable def fQ76.rho:Go.Shelf.Ren:=⟨fun f=>if f=21 then 234 else if f=27 then 282 else if f=28 then 283 else if f=35 then 300 else if f=39 then 304 else f,fun t=>if t=0 then 0 else if t=3 then 3 else if t=4 then 4 else if t=22 then 59 else t,fun g=>g⟩
theorem fQ76.lays:Go.Proofs.Lays2.n21 Tryz.prog fQ76.rho where
 mixed:=by kernel_rfl
 f21:=Tryz.func234.trans (congrArg some (by kernel_rfl))
 f27:=Tryz.func282.trans (congrArg some (by kernel_rfl))
 f28:=Tryz.func283.trans (congrArg some (by kernel_rfl))
 f35:=Tryz.func300.trans (congrArg some (by kernel_rfl))
 f39:=Tryz.func304.trans (congrArg some (by kernel_rfl))
 t0:=by kernel_rfl
 a0:=Tryz.isAgg0
 z0:=Tryz.sizeOf0
 v0:=Tryz.zeroValue0
 t3:=by kernel_rfl
 a3:=Tryz.isAgg3
 z3:=Tryz.sizeOf3
 v3:=Tryz.zeroValue3
 t4:=by kernel_rfl
 a4:=Tryz.isAgg4
 z4:=Tryz.sizeOf4
 v4:=Tryz.zeroValue4
 t22:=by kernel_rfl
 a22:=Tryz.isAgg59
 z22:=Tryz.sizeOf59
 v22:=Tryz.zeroValue59
 i3:=by kernel_rfl
noncomputable def fQ76.f (l0:List Int) (a1:Int) (l2:List Int):Option (List Int):=insF a1 l0 l2
noncomputable def fQ76.ent:Ent2 TT:=⟨234,3,insIn,insOut 6,[.tmp 6],fun x=>fQ76.f x.2.1 x.1 x.2.2⟩
theorem fQ76.ok:Ent2Ok Tryz.prog TT fQ76.ent:=ins_ent tbl fQ76.lays (enters_of (fn:=Tryz.f234) (body:=(Tryz.f234.body.getD .skip)) Tryz.func234 (by kernel_rfl) (by kernel_rfl)) 6
noncomputable def fQ84.f (k:Nat) (l0:List (Int)) (a1:Int):Option ((List (Int))):=(fQ36.f l0).bind fun t1=>((fQ96.f k l0 a1).bind fun t2=>(if t2=true then (some t1) else ((fQ3.f k l0 a1).bind fun t3=>(if t3.1<0 then ((fQ76.f t1 (l0.length:Int) ([t3.2]:List (Int))).bind fun t4=>(some t4)) else ((fQ76.f t1 t3.1 ([t3.2]:List (Int))).bind fun t5=>(some t5))))))
@[reducible] noncomputable def fQ84.us:List (CutU TT (TupT ST [.lst (.int .i64)])):=[]
noncomputable def fQ84.ent (k:Nat):Ent TT:=⟨115,[.one,.one],[.lst (.int .i64),.int .i64],.one,[.lst (.int .i64)],fun x=>fQ84.f k x.1 x.2⟩
noncomputable def fQ84.ents (k:Nat):Ents TT:=⟨[fQ96.ent k],[fQ36.ent,fQ3.ent k,fQ76.ent],[]⟩
theorem fQ84.chk (k:Nat) (x:TupT ST [.lst (.int .i64),.int .i64]):runU TT (calF [] (fQ84.ents k)) (jmps fQ84.us k) (finK Tryz.f115 (retK TT (.one) [.lst (.int .i64)])) Tryz.f115 none (canon (args0 0 (argL [.one,.one] [.lst (.int .i64),.int .i64] x)) [])=fQ84.f k x.1 x.2:=by kernel_rfl
theorem fQ84.ok (k:Nat):EntOk Tryz.prog TT (fQ84.ent k):=
 fun_of tbl mixed 115 Tryz.f115 Tryz.func115 rfl (by kernel_rfl) [.one,.one] [.lst (.int .i64),.int .i64] (.one) [.lst (.int .i64)] (by kernel_rfl) [] fQ84.ents fQ84.us True.intro True.intro (fun k (x:TupT ST [.lst (.int .i64),.int .i64])=>fQ84.f k x.1 x.2) fQ84.chk (fun k=>EntsOk.mk (And.intro (fQ96.ok k) True.intro) (And.intro fQ36.ok (And.intro (fQ3.ok k) (And.intro fQ76.ok True.intro))) True.intro) k
noncomputable def fQ60.f (k:Nat) (a0_0:Int) (a0_1:Int) (a0_2:List (I_Term)) (c0_0:List (Int)):Option ((List (Int))):=(fQ81.f a0_0 a0_1 a0_2).bind fun t1=>(if t1=true then ((fQ84.f k c0_0 a0_1).bind fun t2=>(some t2)) else (some c0_0))
noncomputable def fQ60.pin:Cut:=⟨[],[(1073741824,0)],[(0,.agg [.one,.one,.one]),(1,.ptr 1073741824 0)],[(1073741824,[.one])],[],[.int .i64,.int .i64,.lst (.st 1),.lst (.int .i64)]⟩
noncomputable def fQ60.pout:Cut:=⟨[],[(1073741824,0)],[],[(1073741824,[.one])],[],[.lst (.int .i64)]⟩
@[reducible] noncomputable def fQ60.us:List (CutU TT (TupT ST fQ60.pout.es)):=[]
noncomputable def fQ60.ent (k:Nat):Ent2 TT:=⟨230,2,fQ60.pin,fQ60.pout,Tryz.f230.results.toList,fun x=>fQ60.f k x.1 x.2.1 x.2.2.1 x.2.2.2⟩
noncomputable def fQ60.ents (k:Nat):Ents TT:=⟨[fQ81.ent,fQ84.ent k],[],[]⟩
theorem fQ60.chk (k:Nat) (x:TupT ST fQ60.pin.es):runU TT (calF [] (fQ60.ents k)) (jmps fQ60.us k) (finC fQ60.pout Tryz.f230.results.toList) Tryz.f230 none (canonC fQ60.pin x)=fQ60.f k x.1 x.2.1 x.2.2.1 x.2.2.2:=by kernel_rfl
theorem fQ60.ok (k:Nat):Ent2Ok Tryz.prog TT (fQ60.ent k):=
 fun_of2 tbl mixed 230 Tryz.f230 Tryz.func230 rfl (by kernel_rfl) 2 fQ60.pin fQ60.pout (by kernel_rfl) [] fQ60.ents fQ60.us True.intro True.intro (fun k (x:TupT ST fQ60.pin.es)=>fQ60.f k x.1 x.2.1 x.2.2.1 x.2.2.2) fQ60.chk (fun k=>EntsOk.mk (And.intro fQ81.ok (And.intro (fQ84.ok k) True.intro)) True.intro True.intro) k
mutual
noncomputable def fQ9.l0:Nat→List (I_Term)→Int→Int→List (Int)→Option ((List (Int)))
 | 0,_,_,_,_=>none
 | k+1,x10,x11,x12,b1073741824_0=>if x12<x11 then (if 0≤x12 then (if x12<(x10.length:Int) then ((fQ9.f k ((rd_I_Term x10 x12).f0) ((rd_I_Term x10 x12).f1) ((rd_I_Term x10 x12).f2) b1073741824_0).bind fun t2=>(fQ9.l0 k x10 x11 (wrap64 (x12+1)) t2)) else none) else none) else (some b1073741824_0)
noncomputable def fQ9.f:Nat→Int→Int→List (I_Term)→List (Int)→Option ((List (Int)))
 | 0,_,_,_,_=>none
 | k+1,a0_0,a0_1,a0_2,c0_0=>(fQ60.f k a0_0 a0_1 a0_2 c0_0).bind fun t1=>(fQ9.l0 k a0_2 (a0_2.length:Int) 0 t1)
end
noncomputable def fQ9.pin:Cut:=⟨[],[(1073741824,0)],[(0,.agg [.one,.one,.one]),(1,.clo 230 [.ptr 1073741824 0])],[(1073741824,[.one])],[],[.int .i64,.int .i64,.lst (.st 1),.lst (.int .i64)]⟩
noncomputable def fQ9.pout:Cut:=⟨[],[(1073741824,0)],[],[(1073741824,[.one])],[],[.lst (.int .i64)]⟩
noncomputable def fQ9.ent (k:Nat):Ent2 TT:=⟨229,2,fQ9.pin,fQ9.pout,Tryz.f229.results.toList,fun x=>fQ9.f k x.1 x.2.1 x.2.2.1 x.2.2.2⟩
noncomputable def fQ9.l0.c:Cut:=⟨[10],[(1073741824,0)],[(1,.clo 230 [.ptr 1073741824 0]),(10,.one),(11,.one),(12,.one)],[(1073741824,[.one])],[],[.lst (.st 1),.int .i64,.int .i64,.lst (.int .i64)]⟩
@[reducible] noncomputable def fQ9.us:List (CutU TT (TupT ST fQ9.pout.es)):=[⟨3,fQ9.l0.c,fun k x=>fQ9.l0 k x.1 x.2.1 x.2.2.1 x.2.2.2⟩]
noncomputable def fQ9.ents (k:Nat):Ents TT:=⟨[],[fQ60.ent k,fQ9.ent k],[]⟩
noncomputable def fQ9.l0.raw (k:Nat) (x10:List (I_Term)) (x11:Int) (x12:Int) (b1073741824_0:List (Int)):Option ((List (Int))):=if x12<x11 then (if 0≤x12 then (if x12<(x10.length:Int) then ((fQ9.f k ((rd_I_Term x10 x12).f0) ((rd_I_Term x10 x12).f1) ((rd_I_Term x10 x12).f2) b1073741824_0).bind fun t2=>(fQ9.l0 k x10 x11 (wr .i64 (x12+1)) t2)) else none) else none) else (some b1073741824_0)
theorem fQ9.l0.clean (k:Nat) (x10:List (I_Term)) (x11:Int) (x12:Int) (b1073741824_0:List (Int)):fQ9.l0.raw k x10 x11 x12 b1073741824_0=fQ9.l0 (k+1) x10 x11 x12 b1073741824_0:=by
 rw [fQ9.l0.raw,fQ9.l0]
 simp only [wr_i64]
theorem fQ9.l0.chk (k:Nat) (x:TupT ST [.lst (.st 1),.int .i64,.int .i64,.lst (.int .i64)]):runU TT (calF [] (fQ9.ents k)) (jmps fQ9.us k) (finC fQ9.pout Tryz.f229.results.toList) Tryz.f229 (some 3) (canonC fQ9.l0.c x)=fQ9.l0 (k+1) x.1 x.2.1 x.2.2.1 x.2.2.2:=Eq.trans (show _=fQ9.l0.raw k x.1 x.2.1 x.2.2.1 x.2.2.2 by kernel_rfl) (fQ9.l0.clean k x.1 x.2.1 x.2.2.1 x.2.2.2)
theorem fQ9.chk (k:Nat) (x:TupT ST fQ9.pin.es):runU TT (calF [] (fQ9.ents k)) (jmps fQ9.us k) (finC fQ9.pout Tryz.f229.results.toList) Tryz.f229 none (canonC fQ9.pin x)=fQ9.f (k+1) x.1 x.2.1 x.2.2.1 x.2.2.2:=by kernel_rfl
theorem fQ9.grp:∀k:Nat,EachU (EntOk Tryz.prog TT) []∧EachU (Ent2Ok Tryz.prog TT) [fQ9.ent k]:=by
 intro k
 induction k using Nat.strongRecOn with
 | ind k ih=>
  exact And.intro True.intro (And.intro (fun_in2 tbl mixed 229 Tryz.f229 Tryz.func229 rfl (by kernel_rfl) 2 fQ9.pin fQ9.pout (by kernel_rfl) [] fQ9.ents fQ9.us (And.intro (fun _=>rfl) True.intro) (And.intro fQ9.l0.chk True.intro) (fun k (x:TupT ST fQ9.pin.es)=>fQ9.f k x.1 x.2.1 x.2.2.1 x.2.2.2) (fun _=>rfl) fQ9.chk k (fun j h=>EntsOk.mk True.intro (And.intro (fQ60.ok j) (And.intro (ih j h).2.1 True.intro)) True.intro)) True.intro)
theorem fQ9.ok (k:Nat):Ent2Ok Tryz.prog TT (fQ9.ent k):=(fQ9.grp k).2.1
noncomputable def fQ88.f (k:Nat) (a0_0:Int) (a0_1:Int) (l0_2:List (I_Term)):Option ((List (Int))):=(fQ9.f k a0_0 a0_1 l0_2 ([]:List (Int))).bind fun t1=>(some t1)
@[reducible] noncomputable def fQ88.us:List (CutU TT (TupT ST [.lst (.int .i64)])):=[]
noncomputable def fQ88.ent (k:Nat):Ent TT:=⟨114,[.agg 3],[.int .i64,.int .i64,.lst (.st 1)],.one,[.lst (.int .i64)],fun x=>fQ88.f k x.1 x.2.1 x.2.2⟩
noncomputable def fQ88.ents (k:Nat):Ents TT:=⟨[],[fQ9.ent k],[]⟩
theorem fQ88.chk (k:Nat) (x:TupT ST [.int .i64,.int .i64,.lst (.st 1)]):runU TT (calF [] (fQ88.ents k)) (jmps fQ88.us k) (finK Tryz.f114 (retK TT (.one) [.lst (.int .i64)])) Tryz.f114 none (canon (args0 0 (argL [.agg 3] [.int .i64,.int .i64,.lst (.st 1)] x)) [])=fQ88.f k x.1 x.2.1 x.2.2:=by kernel_rfl
theorem fQ88.ok (k:Nat):EntOk Tryz.prog TT (fQ88.ent k):=
 fun_of tbl mixed 114 Tryz.f114 Tryz.func114 rfl (by kernel_rfl) [.agg 3] [.int .i64,.int .i64,.lst (.st 1)] (.one) [.lst (.int .i64)] (by kernel_rfl) [] fQ88.ents fQ88.us True.intro True.intro (fun k (x:TupT ST [.int .i64,.int .i64,.lst (.st 1)])=>fQ88.f k x.1 x.2.1 x.2.2) fQ88.chk (fun k=>EntsOk.mk True.intro (And.intro (fQ9.ok k) True.intro) True.intro) k
mutual
noncomputable def fQ23.l0:Nat→List (Int)→List (I_Lit)→Int→Int→Option ((List (Int)))
 | 0,_,_,_,_=>none
 | k+1,x3,x10,x11,x12=>if x12<x11 then (if 0≤x12 then (if x12<(x10.length:Int) then ((fQ88.f k ((rd_I_Lit x10 x12).f1.f0) ((rd_I_Lit x10 x12).f1.f1) ((rd_I_Lit x10 x12).f1.f2)).bind fun t1=>((fQ88.f k ((rd_I_Lit x10 x12).f2.f0) ((rd_I_Lit x10 x12).f2.f1) ((rd_I_Lit x10 x12).f2.f2)).bind fun t2=>((fQ10.f k ([t1,t2]:List (List (Int)))).bind fun t3=>(fQ23.l1 k x3 x10 x11 x12 t3 (t3.length:Int) 0)))) else none) else none) else (some x3)
noncomputable def fQ23.l1:Nat→List (Int)→List (I_Lit)→Int→Int→List (Int)→Int→Int→Option ((List (Int)))
 | 0,_,_,_,_,_,_,_=>none
 | k+1,x3,x10,x11,x12,x23,x24,x25=>if x25<x24 then (if 0≤x25 then (if x25<(x23.length:Int) then ((fQ84.f k x3 (rd x23 x25)).bind fun t4=>(fQ23.l1 k t4 x10 x11 x12 x23 x24 (wrap64 (x25+1)))) else none) else none) else (fQ23.l0 k x3 x10 x11 (wrap64 (x12+1)))
end
noncomputable def fQ23.f (k:Nat) (l0_0:List (I_Lit)):Option ((List (Int))):=fQ23.l0 k ([]:List (Int)) l0_0 (l0_0.length:Int) 0
noncomputable def fQ23.l0.c:Cut:=⟨[3,10],[],[(3,.one),(10,.one),(11,.one),(12,.one)],[],[],[.lst (.int .i64),.lst (.st 3),.int .i64,.int .i64]⟩
noncomputable def fQ23.l1.c:Cut:=⟨[3,10,23],[],[(3,.one),(10,.one),(11,.one),(12,.one),(23,.one),(24,.one),(25,.one)],[],[],[.lst (.int .i64),.lst (.st 3),.int .i64,.int .i64,.lst (.int .i64),.int .i64,.int .i64]⟩
@[reducible] noncomputable def fQ23.us:List (CutU TT (TupT ST [.lst (.int .i64)])):=[⟨3,fQ23.l0.c,fun k x=>fQ23.l0 k x.1 x.2.1 x.2.2.1 x.2.2.2⟩,⟨6,fQ23.l1.c,fun k x=>fQ23.l1 k x.1 x.2.1 x.2.2.1 x.2.2.2.1 x.2.2.2.2.1 x.2.2.2.2.2.1 x.2.2.2.2.2.2⟩]
noncomputable def fQ23.ent (k:Nat):Ent TT:=⟨35,[.agg 1],[.lst (.st 3)],.one,[.lst (.int .i64)],fun x=>fQ23.f k x⟩
noncomputable def fQ23.ents (k:Nat):Ents TT:=⟨[fQ88.ent k,fQ10.ent k,fQ84.ent k],[],[]⟩
theorem fQ23.l0.chk (k:Nat) (x:TupT ST [.lst (.int .i64),.lst (.st 3),.int .i64,.int .i64]):runU TT (calF [] (fQ23.ents k)) (jmps fQ23.us k) (finK Tryz.f35 (retK TT (.one) [.lst (.int .i64)])) Tryz.f35 (some 3) (canonC fQ23.l0.c x)=fQ23.l0 (k+1) x.1 x.2.1 x.2.2.1 x.2.2.2:=by kernel_rfl
noncomputable def fQ23.l1.raw (k:Nat) (x3:List (Int)) (x10:List (I_Lit)) (x11:Int) (x12:Int) (x23:List (Int)) (x24:Int) (x25:Int):Option ((List (Int))):=if x25<x24 then (if 0≤x25 then (if x25<(x23.length:Int) then ((fQ84.f k x3 (rd x23 x25)).bind fun t4=>(fQ23.l1 k t4 x10 x11 x12 x23 x24 (wr .i64 (x25+1)))) else none) else none) else (fQ23.l0 k x3 x10 x11 (wr .i64 (x12+1)))
theorem fQ23.l1.clean (k:Nat) (x3:List (Int)) (x10:List (I_Lit)) (x11:Int) (x12:Int) (x23:List (Int)) (x24:Int) (x25:Int):fQ23.l1.raw k x3 x10 x11 x12 x23 x24 x25=fQ23.l1 (k+1) x3 x10 x11 x12 x23 x24 x25:=by
 rw [fQ23.l1.raw,fQ23.l1]
 simp only [wr_i64]
theorem fQ23.l1.chk (k:Nat) (x:TupT ST [.lst (.int .i64),.lst (.st 3),.int .i64,.int .i64,.lst (.int .i64),.int .i64,.int .i64]):runU TT (calF [] (fQ23.ents k)) (jmps fQ23.us k) (finK Tryz.f35 (retK TT (.one) [.lst (.int .i64)])) Tryz.f35 (some 6) (canonC fQ23.l1.c x)=fQ23.l1 (k+1) x.1 x.2.1 x.2.2.1 x.2.2.2.1 x.2.2.2.2.1 x.2.2.2.2.2.1 x.2.2.2.2.2.2:=Eq.trans (show _=fQ23.l1.raw k x.1 x.2.1 x.2.2.1 x.2.2.2.1 x.2.2.2.2.1 x.2.2.2.2.2.1 x.2.2.2.2.2.2 by kernel_rfl) (fQ23.l1.clean k x.1 x.2.1 x.2.2.1 x.2.2.2.1 x.2.2.2.2.1 x.2.2.2.2.2.1 x.2.2.2.2.2.2)
theorem fQ23.chk (k:Nat) (x:TupT ST [.lst (.st 3)]):runU TT (calF [] (fQ23.ents k)) (jmps fQ23.us k) (finK Tryz.f35 (retK TT (.one) [.lst (.int .i64)])) Tryz.f35 none (canon (args0 0 (argL [.agg 1] [.lst (.st 3)] x)) [])=fQ23.f k x:=by kernel_rfl
theorem fQ23.ok (k:Nat):EntOk Tryz.prog TT (fQ23.ent k):=
 fun_of tbl mixed 35 Tryz.f35 Tryz.func35 rfl (by kernel_rfl) [.agg 1] [.lst (.st 3)] (.one) [.lst (.int .i64)] (by kernel_rfl) [] fQ23.ents fQ23.us (And.intro (fun _=>rfl) (And.intro (fun _=>rfl) True.intro)) (And.intro fQ23.l0.chk (And.intro fQ23.l1.chk True.intro)) (fun k (x:TupT ST [.lst (.st 3)])=>fQ23.f k x) fQ23.chk (fun k=>EntsOk.mk (And.intro (fQ88.ok k) (And.intro (fQ10.ok k) (And.intro (fQ84.ok k) True.intro))) True.intro True.intro) k
noncomputable def fQ48.l0:Nat→Int→Int→Int→Int→Option (Int)
 | 0,_,_,_,_=>none
 | k+1,x0,x5,x6,x7=>if x7<x6 then (fQ48.l0 k x0 (wrap64 (x5*x0)) x6 (wrap64 (x7+1))) else (some x5)
noncomputable def fQ48.f (k:Nat) (a0:Int) (a1:Int):Option (Int):=fQ48.l0 k a0 1 a1 0
noncomputable def fQ48.l0.c:Cut:=⟨[],[],[(0,.one),(5,.one),(6,.one),(7,.one)],[],[],[.int .i64,.int .i64,.int .i64,.int .i64]⟩
@[reducible] noncomputable def fQ48.us:List (CutU TT (TupT ST [.int .i64])):=[⟨3,fQ48.l0.c,fun k x=>fQ48.l0 k x.1 x.2.1 x.2.2.1 x.2.2.2⟩]
noncomputable def fQ48.ent (k:Nat):Ent TT:=⟨133,[.one,.one],[.int .i64,.int .i64],.one,[.int .i64],fun x=>fQ48.f k x.1 x.2⟩
noncomputable def fQ48.ents (k:Nat):Ents TT:=⟨[],[],[]⟩
noncomputable def fQ48.l0.raw (k:Nat) (x0:Int) (x5:Int) (x6:Int) (x7:Int):Option (Int):=if x7<x6 then (fQ48.l0 k x0 (wr .i64 (x5*x0)) x6 (wr .i64 (x7+1))) else (some x5)
theorem fQ48.l0.clean (k:Nat) (x0:Int) (x5:Int) (x6:Int) (x7:Int):fQ48.l0.raw k x0 x5 x6 x7=fQ48.l0 (k+1) x0 x5 x6 x7:=by
 rw [fQ48.l0.raw,fQ48.l0]
 simp only [wr_i64]
theorem fQ48.l0.chk (k:Nat) (x:TupT ST [.int .i64,.int .i64,.int .i64,.int .i64]):runU TT (calF [] (fQ48.ents k)) (jmps fQ48.us k) (finK Tryz.f133 (retK TT (.one) [.int .i64])) Tryz.f133 (some 3) (canonC fQ48.l0.c x)=fQ48.l0 (k+1) x.1 x.2.1 x.2.2.1 x.2.2.2:=Eq.trans (show _=fQ48.l0.raw k x.1 x.2.1 x.2.2.1 x.2.2.2 by kernel_rfl) (fQ48.l0.clean k x.1 x.2.1 x.2.2.1 x.2.2.2)
theorem fQ48.chk (k:Nat) (x:TupT ST [.int .i64,.int .i64]):runU TT (calF [] (fQ48.ents k)) (jmps fQ48.us k) (finK Tryz.f133 (retK TT (.one) [.int .i64])) Tryz.f133 none (canon (args0 0 (argL [.one,.one] [.int .i64,.int .i64] x)) [])=fQ48.f k x.1 x.2:=by kernel_rfl
theorem fQ48.ok (k:Nat):EntOk Tryz.prog TT (fQ48.ent k):=
 fun_of tbl mixed 133 Tryz.f133 Tryz.func133 rfl (by kernel_rfl) [.one,.one] [.int .i64,.int .i64] (.one) [.int .i64] (by kernel_rfl) [] fQ48.ents fQ48.us (And.intro (fun _=>rfl) True.intro) (And.intro fQ48.l0.chk True.intro) (fun k (x:TupT ST [.int .i64,.int .i64])=>fQ48.f k x.1 x.2) fQ48.chk (fun k=>EntsOk.mk True.intro True.intro True.intro) k
noncomputable def fQ22.f (a0:Int) (a1:Int) (c0_0:List (Int)) (c1_0:Int):Option (Int×(List (Int))×Int):=if 0≤(wrap64 (a0+(wrap64 (c1_0*a1)))) then (if (wrap64 (a0+(wrap64 (c1_0*a1))))<(c0_0.length:Int) then (some (rd c0_0 (wrap64 (a0+(wrap64 (c1_0*a1)))),c0_0,c1_0)) else none) else none
noncomputable def fQ22.pin:Cut:=⟨[],[(1073741824,0)],[(0,.one),(1,.one),(2,.ptr 1073741824 0),(3,.ptr 1073741825 0)],[(1073741824,[.one]),(1073741825,[.one])],[],[.int .i64,.int .i64,.lst (.int .i64),.int .i64]⟩
noncomputable def fQ22.pout:Cut:=⟨[],[(1073741824,0)],[(6,.one)],[(1073741824,[.one]),(1073741825,[.one])],[],[.int .i64,.lst (.int .i64),.int .i64]⟩
@[reducible] noncomputable def fQ22.us:List (CutU TT (TupT ST fQ22.pout.es)):=[]
noncomputable def fQ22.ent:Ent2 TT:=⟨247,4,fQ22.pin,fQ22.pout,Tryz.f247.results.toList,fun x=>fQ22.f x.1 x.2.1 x.2.2.1 x.2.2.2⟩
noncomputable def fQ22.ents (k:Nat):Ents TT:=⟨[],[],[]⟩
noncomputable def fQ22.raw (k:Nat) (a0:Int) (a1:Int) (c0_0:List (Int)) (c1_0:Int):Option (Int×(List (Int))×Int):=if 0≤(wr .i64 (a0+(wr .i64 (c1_0*a1)))) then (if (wr .i64 (a0+(wr .i64 (c1_0*a1))))<(c0_0.length:Int) then (some (rd c0_0 (wr .i64 (a0+(wr .i64 (c1_0*a1)))),c0_0,c1_0)) else none) else none
theorem fQ22.clean (k:Nat) (a0:Int) (a1:Int) (c0_0:List (Int)) (c1_0:Int):fQ22.raw k a0 a1 c0_0 c1_0=fQ22.f a0 a1 c0_0 c1_0:=by
 rw [fQ22.raw,fQ22.f]
 simp only [wr_i64]
theorem fQ22.chk (k:Nat) (x:TupT ST fQ22.pin.es):runU TT (calF [] (fQ22.ents k)) (jmps fQ22.us k) (finC fQ22.pout Tryz.f247.results.toList) Tryz.f247 none (canonC fQ22.pin x)=fQ22.f x.1 x.2.1 x.2.2.1 x.2.2.2:=Eq.trans (show _=fQ22.raw k x.1 x.2.1 x.2.2.1 x.2.2.2 by kernel_rfl) (fQ22.clean k x.1 x.2.1 x.2.2.1 x.2.2.2)
theorem fQ22.ok:Ent2Ok Tryz.prog TT (fQ22.ent):=
 fun_of2 tbl mixed 247 Tryz.f247 Tryz.func247 rfl (by kernel_rfl) 4 fQ22.pin fQ22.pout (by kernel_rfl) [] fQ22.ents fQ22.us True.intro True.intro (fun k (x:TupT ST fQ22.pin.es)=>fQ22.f x.1 x.2.1 x.2.2.1 x.2.2.2) fQ22.chk (fun k=>EntsOk.mk True.intro True.intro True.intro) 0
mutual
noncomputable def fQ12.l0:Nat→Int→Int→Int→List (Int)→Option (Bool)
 | 0,_,_,_,_=>none
 | k+1,x10,x11,b2_0,b3_0=>if x11<x10 then (fQ12.l1 k x11 x10 x11 b2_0 0 b2_0 b3_0) else (some true)
noncomputable def fQ12.l1:Nat→Int→Int→Int→Int→Int→Int→List (Int)→Option (Bool)
 | 0,_,_,_,_,_,_,_=>none
 | k+1,x6,x10,x11,x14,x15,b2_0,b3_0=>if x15<x14 then (fQ12.l2 k x6 x15 x10 x11 x14 x15 b2_0 0 b2_0 b3_0) else (fQ12.l0 k x10 (wrap64 (x11+1)) b2_0 b3_0)
noncomputable def fQ12.l2:Nat→Int→Int→Int→Int→Int→Int→Int→Int→Int→List (Int)→Option (Bool)
 | 0,_,_,_,_,_,_,_,_,_,_=>none
 | k+1,x6,x7,x10,x11,x14,x15,x18,x19,b2_0,b3_0=>if x19<x18 then ((fQ22.f x6 x7 b3_0 b2_0).bind fun t1=>((fQ22.f x7 x6 t1.2.1 t1.2.2).bind fun t2=>(if t1.1=t2.1 then ((fQ22.f x6 x7 t2.2.1 t2.2.2).bind fun t3=>((fQ22.f t3.1 x19 t3.2.1 t3.2.2).bind fun t4=>((fQ22.f x7 x19 t4.2.1 t4.2.2).bind fun t5=>((fQ22.f x6 t5.1 t5.2.1 t5.2.2).bind fun t6=>(if t4.1=t6.1 then (fQ12.l2 k x6 x7 x10 x11 x14 x15 x18 (wrap64 (x19+1)) t6.2.2 t6.2.1) else (some false)))))) else (some false)))) else (fQ12.l1 k x6 x10 x11 x14 (wrap64 (x15+1)) b2_0 b3_0)
end
noncomputable def fQ12.f (k:Nat) (a0:Int) (l1:List (Int)):Option (Bool):=fQ12.l0 k a0 0 a0 l1
noncomputable def fQ12.l0.c:Cut:=⟨[],[(3,0)],[(2,.ptr 2 0),(5,.clo 247 [.ptr 3 0,.ptr 2 0]),(10,.one),(11,.one)],[(2,[.one]),(3,[.one])],[],[.int .i64,.int .i64,.int .i64,.lst (.int .i64)]⟩
noncomputable def fQ12.l1.c:Cut:=⟨[],[(3,0)],[(2,.ptr 2 0),(5,.clo 247 [.ptr 3 0,.ptr 2 0]),(6,.one),(10,.one),(11,.one),(14,.one),(15,.one)],[(2,[.one]),(3,[.one])],[],[.int .i64,.int .i64,.int .i64,.int .i64,.int .i64,.int .i64,.lst (.int .i64)]⟩
noncomputable def fQ12.l2.c:Cut:=⟨[],[(3,0)],[(2,.ptr 2 0),(5,.clo 247 [.ptr 3 0,.ptr 2 0]),(6,.one),(7,.one),(10,.one),(11,.one),(14,.one),(15,.one),(18,.one),(19,.one)],[(2,[.one]),(3,[.one])],[],[.int .i64,.int .i64,.int .i64,.int .i64,.int .i64,.int .i64,.int .i64,.int .i64,.int .i64,.lst (.int .i64)]⟩
@[reducible] noncomputable def fQ12.us:List (CutU TT (TupT ST [.bool])):=[⟨3,fQ12.l0.c,fun k x=>fQ12.l0 k x.1 x.2.1 x.2.2.1 x.2.2.2⟩,⟨6,fQ12.l1.c,fun k x=>fQ12.l1 k x.1 x.2.1 x.2.2.1 x.2.2.2.1 x.2.2.2.2.1 x.2.2.2.2.2.1 x.2.2.2.2.2.2⟩,⟨9,fQ12.l2.c,fun k x=>fQ12.l2 k x.1 x.2.1 x.2.2.1 x.2.2.2.1 x.2.2.2.2.1 x.2.2.2.2.2.1 x.2.2.2.2.2.2.1 x.2.2.2.2.2.2.2.1 x.2.2.2.2.2.2.2.2.1 x.2.2.2.2.2.2.2.2.2⟩]
noncomputable def fQ12.ent (k:Nat):Ent TT:=⟨136,[.one,.one],[.int .i64,.lst (.int .i64)],.one,[.bool],fun x=>fQ12.f k x.1 x.2⟩
noncomputable def fQ12.ents (k:Nat):Ents TT:=⟨[],[fQ22.ent],[]⟩
theorem fQ12.l0.chk (k:Nat) (x:TupT ST [.int .i64,.int .i64,.int .i64,.lst (.int .i64)]):runU TT (calF [] (fQ12.ents k)) (jmps fQ12.us k) (finK Tryz.f136 (retK TT (.one) [.bool])) Tryz.f136 (some 3) (canonC fQ12.l0.c x)=fQ12.l0 (k+1) x.1 x.2.1 x.2.2.1 x.2.2.2:=by kernel_rfl
noncomputable def fQ12.l1.raw (k:Nat) (x6:Int) (x10:Int) (x11:Int) (x14:Int) (x15:Int) (b2_0:Int) (b3_0:List (Int)):Option (Bool):=if x15<x14 then (fQ12.l2 k x6 x15 x10 x11 x14 x15 b2_0 0 b2_0 b3_0) else (fQ12.l0 k x10 (wr .i64 (x11+1)) b2_0 b3_0)
theorem fQ12.l1.clean (k:Nat) (x6:Int) (x10:Int) (x11:Int) (x14:Int) (x15:Int) (b2_0:Int) (b3_0:List (Int)):fQ12.l1.raw k x6 x10 x11 x14 x15 b2_0 b3_0=fQ12.l1 (k+1) x6 x10 x11 x14 x15 b2_0 b3_0:=by
 rw [fQ12.l1.raw,fQ12.l1]
 simp only [wr_i64]
theorem fQ12.l1.chk (k:Nat) (x:TupT ST [.int .i64,.int .i64,.int .i64,.int .i64,.int .i64,.int .i64,.lst (.int .i64)]):runU TT (calF [] (fQ12.ents k)) (jmps fQ12.us k) (finK Tryz.f136 (retK TT (.one) [.bool])) Tryz.f136 (some 6) (canonC fQ12.l1.c x)=fQ12.l1 (k+1) x.1 x.2.1 x.2.2.1 x.2.2.2.1 x.2.2.2.2.1 x.2.2.2.2.2.1 x.2.2.2.2.2.2:=Eq.trans (show _=fQ12.l1.raw k x.1 x.2.1 x.2.2.1 x.2.2.2.1 x.2.2.2.2.1 x.2.2.2.2.2.1 x.2.2.2.2.2.2 by kernel_rfl) (fQ12.l1.clean k x.1 x.2.1 x.2.2.1 x.2.2.2.1 x.2.2.2.2.1 x.2.2.2.2.2.1 x.2.2.2.2.2.2)
noncomputable def fQ12.l2.raw (k:Nat) (x6:Int) (x7:Int) (x10:Int) (x11:Int) (x14:Int) (x15:Int) (x18:Int) (x19:Int) (b2_0:Int) (b3_0:List (Int)):Option (Bool):=if x19<x18 then ((fQ22.f x6 x7 b3_0 b2_0).bind fun t1=>((fQ22.f x7 x6 t1.2.1 t1.2.2).bind fun t2=>(if ¬t1.1=t2.1 then (some false) else ((fQ22.f x6 x7 t2.2.1 t2.2.2).bind fun t3=>((fQ22.f t3.1 x19 t3.2.1 t3.2.2).bind fun t4=>((fQ22.f x7 x19 t4.2.1 t4.2.2).bind fun t5=>((fQ22.f x6 t5.1 t5.2.1 t5.2.2).bind fun t6=>(if ¬t4.1=t6.1 then (some false) else (fQ12.l2 k x6 x7 x10 x11 x14 x15 x18 (wr .i64 (x19+1)) t6.2.2 t6.2.1))))))))) else (fQ12.l1 k x6 x10 x11 x14 (wr .i64 (x15+1)) b2_0 b3_0)
theorem fQ12.l2.clean (k:Nat) (x6:Int) (x7:Int) (x10:Int) (x11:Int) (x14:Int) (x15:Int) (x18:Int) (x19:Int) (b2_0:Int) (b3_0:List (Int)):fQ12.l2.raw k x6 x7 x10 x11 x14 x15 x18 x19 b2_0 b3_0=fQ12.l2 (k+1) x6 x7 x10 x11 x14 x15 x18 x19 b2_0 b3_0:=by
 rw [fQ12.l2.raw,fQ12.l2]
 simp only [wr_i64]
 exact ite_congr rfl (fun h0=>bind_cg fun t1=>(bind_cg fun t2=>(Eq.trans (ite_ng _ _) (ite_congr rfl (fun h1=>bind_cg fun t3=>(bind_cg fun t4=>(bind_cg fun t5=>(bind_cg fun t6=>(ite_ng _ _))))) (fun h1=>rfl))))) (fun h0=>rfl)
theorem fQ12.l2.chk (k:Nat) (x:TupT ST [.int .i64,.int .i64,.int .i64,.int .i64,.int .i64,.int .i64,.int .i64,.int .i64,.int .i64,.lst (.int .i64)]):runU TT (calF [] (fQ12.ents k)) (jmps fQ12.us k) (finK Tryz.f136 (retK TT (.one) [.bool])) Tryz.f136 (some 9) (canonC fQ12.l2.c x)=fQ12.l2 (k+1) x.1 x.2.1 x.2.2.1 x.2.2.2.1 x.2.2.2.2.1 x.2.2.2.2.2.1 x.2.2.2.2.2.2.1 x.2.2.2.2.2.2.2.1 x.2.2.2.2.2.2.2.2.1 x.2.2.2.2.2.2.2.2.2:=Eq.trans (show _=fQ12.l2.raw k x.1 x.2.1 x.2.2.1 x.2.2.2.1 x.2.2.2.2.1 x.2.2.2.2.2.1 x.2.2.2.2.2.2.1 x.2.2.2.2.2.2.2.1 x.2.2.2.2.2.2.2.2.1 x.2.2.2.2.2.2.2.2.2 by kernel_rfl) (fQ12.l2.clean k x.1 x.2.1 x.2.2.1 x.2.2.2.1 x.2.2.2.2.1 x.2.2.2.2.2.1 x.2.2.2.2.2.2.1 x.2.2.2.2.2.2.2.1 x.2.2.2.2.2.2.2.2.1 x.2.2.2.2.2.2.2.2.2)
theorem fQ12.chk (k:Nat) (x:TupT ST [.int .i64,.lst (.int .i64)]):runU TT (calF [] (fQ12.ents k)) (jmps fQ12.us k) (finK Tryz.f136 (retK TT (.one) [.bool])) Tryz.f136 none (canon (args0 0 (argL [.one,.one] [.int .i64,.lst (.int .i64)] x)) [])=fQ12.f k x.1 x.2:=by kernel_rfl
theorem fQ12.ok (k:Nat):EntOk Tryz.prog TT (fQ12.ent k):=
 fun_of tbl mixed 136 Tryz.f136 Tryz.func136 rfl (by kernel_rfl) [.one,.one] [.int .i64,.lst (.int .i64)] (.one) [.bool] (by kernel_rfl) [] fQ12.ents fQ12.us (And.intro (fun _=>rfl) (And.intro (fun _=>rfl) (And.intro (fun _=>rfl) True.intro))) (And.intro fQ12.l0.chk (And.intro fQ12.l1.chk (And.intro fQ12.l2.chk True.intro))) (fun k (x:TupT ST [.int .i64,.lst (.int .i64)])=>fQ12.f k x.1 x.2) fQ12.chk (fun k=>EntsOk.mk True.intro (And.intro fQ22.ok True.intro) True.intro) k
noncomputable def fQ41.f (a0:Int) (c0_0:Int) (c0_1:List (List (Int))):Option (Bool×Int×(List (List (Int)))):=(impl_from.f a0 0 (wrap64 (c0_0 - 1))).bind fun t1=>(some (!t1,c0_0,c0_1))
noncomputable def fQ41.pin:Cut:=⟨[],[(1073741824,1)],[(0,.one),(1,.ptr 1073741824 0)],[(1073741824,[.one,.one])],[],[.int .i64,.int .i64,.lst (.lst (.int .i64))]⟩
noncomputable def fQ41.pout:Cut:=⟨[],[(1073741824,1)],[(3,.one)],[(1073741824,[.one,.one])],[],[.bool,.int .i64,.lst (.lst (.int .i64))]⟩
@[reducible] noncomputable def fQ41.us:List (CutU TT (TupT ST fQ41.pout.es)):=[]
noncomputable def fQ41.ent:Ent2 TT:=⟨135,2,fQ41.pin,fQ41.pout,Tryz.f135.results.toList,fun x=>fQ41.f x.1 x.2.1 x.2.2⟩
noncomputable def fQ41.ents (k:Nat):Ents TT:=⟨[impl_from.ent],[],[]⟩
noncomputable def fQ41.raw (k:Nat) (a0:Int) (c0_0:Int) (c0_1:List (List (Int))):Option (Bool×Int×(List (List (Int)))):=(impl_from.f a0 0 (wr .i64 (c0_0 - 1))).bind fun t1=>(some (!t1,c0_0,c0_1))
theorem fQ41.clean (k:Nat) (a0:Int) (c0_0:Int) (c0_1:List (List (Int))):fQ41.raw k a0 c0_0 c0_1=fQ41.f a0 c0_0 c0_1:=by
 rw [fQ41.raw,fQ41.f]
 simp only [wr_i64]
theorem fQ41.chk (k:Nat) (x:TupT ST fQ41.pin.es):runU TT (calF [] (fQ41.ents k)) (jmps fQ41.us k) (finC fQ41.pout Tryz.f135.results.toList) Tryz.f135 none (canonC fQ41.pin x)=fQ41.f x.1 x.2.1 x.2.2:=Eq.trans (show _=fQ41.raw k x.1 x.2.1 x.2.2 by kernel_rfl) (fQ41.clean k x.1 x.2.1 x.2.2)
theorem fQ41.ok:Ent2Ok Tryz.prog TT (fQ41.ent):=
 fun_of2 tbl mixed 135 Tryz.f135 Tryz.func135 rfl (by kernel_rfl) 2 fQ41.pin fQ41.pout (by kernel_rfl) [] fQ41.ents fQ41.us True.intro True.intro (fun k (x:TupT ST fQ41.pin.es)=>fQ41.f x.1 x.2.1 x.2.2) fQ41.chk (fun k=>EntsOk.mk (And.intro impl_from.ok True.intro) True.intro True.intro) 0
noncomputable def fQ2.l0:Nat→List (Int)→Int→Int→Int→List (List (Int))→Option (Int×Int×(List (List (Int))))
 | 0,_,_,_,_,_=>none
 | k+1,x0,x7,x8,b1073741824_0,b1073741824_1=>if x8<x7 then (if 0≤x8 then (if x8<(x0.length:Int) then ((fQ41.f (rd x0 x8) b1073741824_0 b1073741824_1).bind fun t1=>(if t1.1=true then (some (x8,t1.2.1,t1.2.2)) else (fQ2.l0 k x0 x7 (wrap64 (x8+1)) t1.2.1 t1.2.2))) else none) else none) else (some ((-1),b1073741824_0,b1073741824_1))
noncomputable def fQ2.f (k:Nat) (l0:List (Int)) (c0_0:Int) (c0_1:List (List (Int))):Option (Int×Int×(List (List (Int)))):=fQ2.l0 k l0 (l0.length:Int) 0 c0_0 c0_1
noncomputable def fQ2.pin:Cut:=⟨[0],[(1073741824,1)],[(0,.one),(1,.clo 135 [.ptr 1073741824 0])],[(1073741824,[.one,.one])],[],[.lst (.int .i64),.int .i64,.lst (.lst (.int .i64))]⟩
noncomputable def fQ2.pout:Cut:=⟨[],[(1073741824,1)],[(4,.one)],[(1073741824,[.one,.one])],[],[.int .i64,.int .i64,.lst (.lst (.int .i64))]⟩
noncomputable def fQ2.l0.c:Cut:=⟨[0],[(1073741824,1)],[(0,.one),(1,.clo 135 [.ptr 1073741824 0]),(7,.one),(8,.one)],[(1073741824,[.one,.one])],[],[.lst (.int .i64),.int .i64,.int .i64,.int .i64,.lst (.lst (.int .i64))]⟩
@[reducible] noncomputable def fQ2.us:List (CutU TT (TupT ST fQ2.pout.es)):=[⟨2,fQ2.l0.c,fun k x=>fQ2.l0 k x.1 x.2.1 x.2.2.1 x.2.2.2.1 x.2.2.2.2⟩]
noncomputable def fQ2.ent (k:Nat):Ent2 TT:=⟨232,2,fQ2.pin,fQ2.pout,Tryz.f232.results.toList,fun x=>fQ2.f k x.1 x.2.1 x.2.2⟩
noncomputable def fQ2.ents (k:Nat):Ents TT:=⟨[],[fQ41.ent],[]⟩
noncomputable def fQ2.l0.raw (k:Nat) (x0:List (Int)) (x7:Int) (x8:Int) (b1073741824_0:Int) (b1073741824_1:List (List (Int))):Option (Int×Int×(List (List (Int)))):=if x8<x7 then (if 0≤x8 then (if x8<(x0.length:Int) then ((fQ41.f (rd x0 x8) b1073741824_0 b1073741824_1).bind fun t1=>(if t1.1=true then (some (x8,t1.2.1,t1.2.2)) else (fQ2.l0 k x0 x7 (wr .i64 (x8+1)) t1.2.1 t1.2.2))) else none) else none) else (some ((-1),b1073741824_0,b1073741824_1))
theorem fQ2.l0.clean (k:Nat) (x0:List (Int)) (x7:Int) (x8:Int) (b1073741824_0:Int) (b1073741824_1:List (List (Int))):fQ2.l0.raw k x0 x7 x8 b1073741824_0 b1073741824_1=fQ2.l0 (k+1) x0 x7 x8 b1073741824_0 b1073741824_1:=by
 rw [fQ2.l0.raw,fQ2.l0]
 simp only [wr_i64]
theorem fQ2.l0.chk (k:Nat) (x:TupT ST [.lst (.int .i64),.int .i64,.int .i64,.int .i64,.lst (.lst (.int .i64))]):runU TT (calF [] (fQ2.ents k)) (jmps fQ2.us k) (finC fQ2.pout Tryz.f232.results.toList) Tryz.f232 (some 2) (canonC fQ2.l0.c x)=fQ2.l0 (k+1) x.1 x.2.1 x.2.2.1 x.2.2.2.1 x.2.2.2.2:=Eq.trans (show _=fQ2.l0.raw k x.1 x.2.1 x.2.2.1 x.2.2.2.1 x.2.2.2.2 by kernel_rfl) (fQ2.l0.clean k x.1 x.2.1 x.2.2.1 x.2.2.2.1 x.2.2.2.2)
theorem fQ2.chk (k:Nat) (x:TupT ST fQ2.pin.es):runU TT (calF [] (fQ2.ents k)) (jmps fQ2.us k) (finC fQ2.pout Tryz.f232.results.toList) Tryz.f232 none (canonC fQ2.pin x)=fQ2.f k x.1 x.2.1 x.2.2:=by kernel_rfl
theorem fQ2.ok (k:Nat):Ent2Ok Tryz.prog TT (fQ2.ent k):=
 fun_of2 tbl mixed 232 Tryz.f232 Tryz.func232 rfl (by kernel_rfl) 2 fQ2.pin fQ2.pout (by kernel_rfl) [] fQ2.ents fQ2.us (And.intro (fun _=>rfl) True.intro) (And.intro fQ2.l0.chk True.intro) (fun k (x:TupT ST fQ2.pin.es)=>fQ2.f k x.1 x.2.1 x.2.2) fQ2.chk (fun k=>EntsOk.mk True.intro (And.intro fQ41.ok True.intro) True.intro) k
noncomputable def fQ13.f (k:Nat) (l0:List (Int)) (c0_0:Int) (c0_1:List (List (Int))):Option (Bool×Int×(List (List (Int)))):=(fQ2.f k l0 c0_0 c0_1).bind fun t1=>(some (decide (t1.1≥0),t1.2.1,t1.2.2))
noncomputable def fQ13.pin:Cut:=⟨[0],[(1073741824,1)],[(0,.one),(1,.clo 135 [.ptr 1073741824 0])],[(1073741824,[.one,.one])],[],[.lst (.int .i64),.int .i64,.lst (.lst (.int .i64))]⟩
noncomputable def fQ13.pout:Cut:=⟨[],[(1073741824,1)],[(4,.one)],[(1073741824,[.one,.one])],[],[.bool,.int .i64,.lst (.lst (.int .i64))]⟩
@[reducible] noncomputable def fQ13.us:List (CutU TT (TupT ST fQ13.pout.es)):=[]
noncomputable def fQ13.ent (k:Nat):Ent2 TT:=⟨134,2,fQ13.pin,fQ13.pout,Tryz.f134.results.toList,fun x=>fQ13.f k x.1 x.2.1 x.2.2⟩
noncomputable def fQ13.ents (k:Nat):Ents TT:=⟨[],[fQ2.ent k],[]⟩
theorem fQ13.chk (k:Nat) (x:TupT ST fQ13.pin.es):runU TT (calF [] (fQ13.ents k)) (jmps fQ13.us k) (finC fQ13.pout Tryz.f134.results.toList) Tryz.f134 none (canonC fQ13.pin x)=fQ13.f k x.1 x.2.1 x.2.2:=by kernel_rfl
theorem fQ13.ok (k:Nat):Ent2Ok Tryz.prog TT (fQ13.ent k):=
 fun_of2 tbl mixed 134 Tryz.f134 Tryz.func134 rfl (by kernel_rfl) 2 fQ13.pin fQ13.pout (by kernel_rfl) [] fQ13.ents fQ13.us True.intro True.intro (fun k (x:TupT ST fQ13.pin.es)=>fQ13.f k x.1 x.2.1 x.2.2) fQ13.chk (fun k=>EntsOk.mk True.intro (And.intro (fQ2.ok k) True.intro) True.intro) k
noncomputable def fQ38.l0:Nat→List (I_Sym)→Int→Int→Int→List (List (Int))→Option (Bool)
 | 0,_,_,_,_,_=>none
 | k+1,x25,x26,x27,b3_0,b3_1=>if x27<x26 then (if 0≤x27 then (if x27<(x25.length:Int) then (if x27<(b3_1.length:Int) then ((fQ48.f k b3_0 ((rd_I_Sym x25 x27).f1)).bind fun t3=>(if ((rd_Ls_i64 b3_1 x27).length:Int)=t3 then ((fQ13.f k (rd_Ls_i64 b3_1 x27) b3_0 b3_1).bind fun t4=>(if t4.1=true then (some false) else (if ((rd_I_Sym x25 x27).f2)=true then ((fQ12.f k t4.2.1 (rd_Ls_i64 b3_1 x27)).bind fun t5=>(if t5=true then (fQ38.l0 k x25 x26 (wrap64 (x27+1)) t4.2.1 t4.2.2) else (some false))) else (fQ38.l0 k x25 x26 (wrap64 (x27+1)) t4.2.1 t4.2.2)))) else (some false))) else none) else none) else none) else (some true)
noncomputable def fQ38.f (k:Nat) (l0:List (I_Sym)) (a1_0:Int) (l1_1:List (List (Int))):Option (Bool):=(fQ58.f k l0).bind fun t1=>(if t1=true then ((impl_from.f a1_0 1 4).bind fun t2=>(if t2=true then (if (l1_1.length:Int)=(l0.length:Int) then (fQ38.l0 k l0 (l0.length:Int) 0 a1_0 l1_1) else (some false)) else (some false))) else (some false))
noncomputable def fQ38.l0.c:Cut:=⟨[25],[(3,1)],[(3,.ptr 3 0),(25,.one),(26,.one),(27,.one)],[(3,[.one,.one])],[],[.lst (.st 0),.int .i64,.int .i64,.int .i64,.lst (.lst (.int .i64))]⟩
@[reducible] noncomputable def fQ38.us:List (CutU TT (TupT ST [.bool])):=[⟨4,fQ38.l0.c,fun k x=>fQ38.l0 k x.1 x.2.1 x.2.2.1 x.2.2.2.1 x.2.2.2.2⟩]
noncomputable def fQ38.ent (k:Nat):Ent TT:=⟨50,[.one,.agg 2],[.lst (.st 0),.int .i64,.lst (.lst (.int .i64))],.one,[.bool],fun x=>fQ38.f k x.1 x.2.1 x.2.2⟩
noncomputable def fQ38.ents (k:Nat):Ents TT:=⟨[fQ58.ent k,impl_from.ent,fQ48.ent k,fQ12.ent k],[fQ13.ent k],[]⟩
noncomputable def fQ38.l0.raw (k:Nat) (x25:List (I_Sym)) (x26:Int) (x27:Int) (b3_0:Int) (b3_1:List (List (Int))):Option (Bool):=if x27<x26 then (if 0≤x27 then (if x27<(x25.length:Int) then (if 0≤x27 then (if x27<(b3_1.length:Int) then ((fQ48.f k b3_0 ((rd_I_Sym x25 x27).f1)).bind fun t3=>(if ¬((rd_Ls_i64 b3_1 x27).length:Int)=t3 then (some false) else ((fQ13.f k (rd_Ls_i64 b3_1 x27) b3_0 b3_1).bind fun t4=>(if t4.1=true then (some false) else (if ((rd_I_Sym x25 x27).f2)=true then ((fQ12.f k t4.2.1 (rd_Ls_i64 b3_1 x27)).bind fun t5=>(if (!t5)=true then (some false) else (fQ38.l0 k x25 x26 (wr .i64 (x27+1)) t4.2.1 t4.2.2))) else (fQ38.l0 k x25 x26 (wr .i64 (x27+1)) t4.2.1 t4.2.2)))))) else none) else none) else none) else none) else (some true)
theorem fQ38.l0.clean (k:Nat) (x25:List (I_Sym)) (x26:Int) (x27:Int) (b3_0:Int) (b3_1:List (List (Int))):fQ38.l0.raw k x25 x26 x27 b3_0 b3_1=fQ38.l0 (k+1) x25 x26 x27 b3_0 b3_1:=by
 rw [fQ38.l0.raw,fQ38.l0]
 simp only [wr_i64]
 exact ite_congr rfl (fun h0=>ite_congr rfl (fun h1=>ite_congr rfl (fun h2=>Eq.trans (if_pos h1) (ite_congr rfl (fun h3=>bind_cg fun t3=>(Eq.trans (ite_ng _ _) (ite_congr rfl (fun h4=>bind_cg fun t4=>(ite_congr rfl (fun h5=>rfl) (fun h5=>ite_congr rfl (fun h6=>bind_cg fun t5=>(ite_nb _ _ _)) (fun h6=>rfl)))) (fun h4=>rfl)))) (fun h3=>rfl))) (fun h2=>rfl)) (fun h1=>rfl)) (fun h0=>rfl)
theorem fQ38.l0.chk (k:Nat) (x:TupT ST [.lst (.st 0),.int .i64,.int .i64,.int .i64,.lst (.lst (.int .i64))]):runU TT (calF [] (fQ38.ents k)) (jmps fQ38.us k) (finK Tryz.f50 (retK TT (.one) [.bool])) Tryz.f50 (some 4) (canonC fQ38.l0.c x)=fQ38.l0 (k+1) x.1 x.2.1 x.2.2.1 x.2.2.2.1 x.2.2.2.2:=Eq.trans (show _=fQ38.l0.raw k x.1 x.2.1 x.2.2.1 x.2.2.2.1 x.2.2.2.2 by kernel_rfl) (fQ38.l0.clean k x.1 x.2.1 x.2.2.1 x.2.2.2.1 x.2.2.2.2)
noncomputable def fQ38.raw (k:Nat) (l0:List (I_Sym)) (a1_0:Int) (l1_1:List (List (Int))):Option (Bool):=(fQ58.f k l0).bind fun t1=>(if (!t1)=true then (some false) else ((impl_from.f a1_0 1 4).bind fun t2=>(if (!t2)=true then (some false) else (if ¬(l1_1.length:Int)=(l0.length:Int) then (some false) else (fQ38.l0 k l0 (l0.length:Int) 0 a1_0 l1_1)))))
theorem fQ38.clean (k:Nat) (l0:List (I_Sym)) (a1_0:Int) (l1_1:List (List (Int))):fQ38.raw k l0 a1_0 l1_1=fQ38.f k l0 a1_0 l1_1:=by
 rw [fQ38.raw,fQ38.f]
 exact bind_cg fun t1=>(Eq.trans (ite_nb _ _ _) (ite_congr rfl (fun h0=>bind_cg fun t2=>(Eq.trans (ite_nb _ _ _) (ite_congr rfl (fun h1=>ite_ng _ _) (fun h1=>rfl)))) (fun h0=>rfl)))
theorem fQ38.chk (k:Nat) (x:TupT ST [.lst (.st 0),.int .i64,.lst (.lst (.int .i64))]):runU TT (calF [] (fQ38.ents k)) (jmps fQ38.us k) (finK Tryz.f50 (retK TT (.one) [.bool])) Tryz.f50 none (canon (args0 0 (argL [.one,.agg 2] [.lst (.st 0),.int .i64,.lst (.lst (.int .i64))] x)) [])=fQ38.f k x.1 x.2.1 x.2.2:=Eq.trans (show _=fQ38.raw k x.1 x.2.1 x.2.2 by kernel_rfl) (fQ38.clean k x.1 x.2.1 x.2.2)
theorem fQ38.ok (k:Nat):EntOk Tryz.prog TT (fQ38.ent k):=
 fun_of tbl mixed 50 Tryz.f50 Tryz.func50 rfl (by kernel_rfl) [.one,.agg 2] [.lst (.st 0),.int .i64,.lst (.lst (.int .i64))] (.one) [.bool] (by kernel_rfl) [] fQ38.ents fQ38.us (And.intro (fun _=>rfl) True.intro) (And.intro fQ38.l0.chk True.intro) (fun k (x:TupT ST [.lst (.st 0),.int .i64,.lst (.lst (.int .i64))])=>fQ38.f k x.1 x.2.1 x.2.2) fQ38.chk (fun k=>EntsOk.mk (And.intro (fQ58.ok k) (And.intro impl_from.ok (And.intro (fQ48.ok k) (And.intro (fQ12.ok k) True.intro)))) (And.intro (fQ13.ok k) True.intro) True.intro) k
noncomputable def fQ92.f (l0:List (I_Sym)) (a1:Int):Option (Bool):=(fQ75.f l0 a1).bind fun t1=>(if t1=true then (if 0≤a1 then (if a1<(l0.length:Int) then (some ((rd_I_Sym l0 a1).f2)) else none) else none) else (some false))
@[reducible] noncomputable def fQ92.us:List (CutU TT (TupT ST [.bool])):=[]
noncomputable def fQ92.ent:Ent TT:=⟨189,[.one,.one],[.lst (.st 0),.int .i64],.one,[.bool],fun x=>fQ92.f x.1 x.2⟩
noncomputable def fQ92.ents (k:Nat):Ents TT:=⟨[fQ75.ent],[],[]⟩
theorem fQ92.chk (k:Nat) (x:TupT ST [.lst (.st 0),.int .i64]):runU TT (calF [] (fQ92.ents k)) (jmps fQ92.us k) (finK Tryz.f189 (retK TT (.one) [.bool])) Tryz.f189 none (canon (args0 0 (argL [.one,.one] [.lst (.st 0),.int .i64] x)) [])=fQ92.f x.1 x.2:=by kernel_rfl
theorem fQ92.ok:EntOk Tryz.prog TT (fQ92.ent):=
 fun_of tbl mixed 189 Tryz.f189 Tryz.func189 rfl (by kernel_rfl) [.one,.one] [.lst (.st 0),.int .i64] (.one) [.bool] (by kernel_rfl) [] fQ92.ents fQ92.us True.intro True.intro (fun k (x:TupT ST [.lst (.st 0),.int .i64])=>fQ92.f x.1 x.2) fQ92.chk (fun k=>EntsOk.mk (And.intro fQ75.ok True.intro) True.intro True.intro) 0
mutual
noncomputable def fQ26.l0:Nat→List (I_Sym)→List (Int)→List (Int)→Int→List (I_Term)→Int→Int→Int→List (List (Int))→Option (Int)
 | 0,_,_,_,_,_,_,_,_,_=>none
 | k+1,x0,x3,x9,x10,x58,x59,x60,b5_0,b5_1=>if x60<x59 then (if 0≤x60 then (if x60<(x58.length:Int) then ((fQ26.f k x0 b5_0 b5_1 ((rd_I_Term x58 x60).f0) ((rd_I_Term x58 x60).f1) ((rd_I_Term x58 x60).f2) x3).bind fun t4=>(if 0≤(wrap64 (x10+(wrap64 (b5_0*t4)))) then (if (wrap64 (x10+(wrap64 (b5_0*t4))))<(x9.length:Int) then (fQ26.l0 k x0 x3 x9 (rd x9 (wrap64 (x10+(wrap64 (b5_0*t4))))) x58 x59 (wrap64 (x60+1)) b5_0 b5_1) else none) else none)) else none) else none) else (some x10)
noncomputable def fQ26.l1:Nat→List (I_Sym)→List (Int)→List (Int)→Int→Int→List (I_Term)→Int→Int→Int→List (List (Int))→Option (Int)
 | 0,_,_,_,_,_,_,_,_,_,_=>none
 | k+1,x0,x3,x9,x13,x14,x80,x81,x82,b5_0,b5_1=>if x82<x81 then (if 0≤x82 then (if x82<(x80.length:Int) then ((fQ26.f k x0 b5_0 b5_1 ((rd_I_Term x80 x82).f0) ((rd_I_Term x80 x82).f1) ((rd_I_Term x80 x82).f2) x3).bind fun t5=>(fQ26.l1 k x0 x3 x9 (wrap64 (x13+(wrap64 (x14*t5)))) (wrap64 (x14*b5_0)) x80 x81 (wrap64 (x82+1)) b5_0 b5_1)) else none) else none) else (if 0≤x13 then (if x13<(x9.length:Int) then (some (rd x9 x13)) else none) else none)
noncomputable def fQ26.f:Nat→List (I_Sym)→Int→List (List (Int))→Int→Int→List (I_Term)→List (Int)→Option (Int)
 | 0,_,_,_,_,_,_,_=>none
 | k+1,l0,a1_0,l1_1,a2_0,a2_1,l2_2,l3=>(fQ81.f a2_0 a2_1 l2_2).bind fun t1=>(if t1=true then (if a2_1≥(l3.length:Int) then (some 0) else (if 0≤a2_1 then (if a2_1<(l3.length:Int) then (if a1_0=0 then none else (some (Int.tmod (wrap64 ((Int.tmod (rd l3 a2_1) a1_0)+a1_0)) a1_0))) else none) else none)) else (if 0≤a2_0 then (if a2_0<(l1_1.length:Int) then ((fQ92.f l0 a2_0).bind fun t2=>(if t2=true then (if 0<(l2_2.length:Int) then ((fQ26.f k l0 a1_0 l1_1 ((rd_I_Term l2_2 0).f0) ((rd_I_Term l2_2 0).f1) ((rd_I_Term l2_2 0).f2) l3).bind fun t3=>(if 1≤(l2_2.length:Int) then (fQ26.l0 k l0 l3 (rd_Ls_i64 l1_1 a2_0) t3 (l2_2.drop (1:Int).toNat) ((l2_2.drop (1:Int).toNat).length:Int) 0 a1_0 l1_1) else none)) else none) else (fQ26.l1 k l0 l3 (rd_Ls_i64 l1_1 a2_0) 0 1 l2_2 (l2_2.length:Int) 0 a1_0 l1_1))) else none) else none))
end
noncomputable def fQ26.ent (k:Nat):Ent TT:=⟨117,[.one,.agg 2,.agg 3,.one],[.lst (.st 0),.int .i64,.lst (.lst (.int .i64)),.int .i64,.int .i64,.lst (.st 1),.lst (.int .i64)],.one,[.int .i64],fun x=>fQ26.f k x.1 x.2.1 x.2.2.1 x.2.2.2.1 x.2.2.2.2.1 x.2.2.2.2.2.1 x.2.2.2.2.2.2⟩
noncomputable def fQ26.l0.c:Cut:=⟨[0,3,9,58],[(5,1)],[(0,.one),(3,.one),(5,.ptr 5 0),(9,.one),(10,.one),(58,.one),(59,.one),(60,.one)],[(5,[.one,.one])],[],[.lst (.st 0),.lst (.int .i64),.lst (.int .i64),.int .i64,.lst (.st 1),.int .i64,.int .i64,.int .i64,.lst (.lst (.int .i64))]⟩
noncomputable def fQ26.l1.c:Cut:=⟨[0,3,9,80],[(5,1)],[(0,.one),(3,.one),(5,.ptr 5 0),(9,.one),(13,.one),(14,.one),(80,.one),(81,.one),(82,.one)],[(5,[.one,.one])],[],[.lst (.st 0),.lst (.int .i64),.lst (.int .i64),.int .i64,.int .i64,.lst (.st 1),.int .i64,.int .i64,.int .i64,.lst (.lst (.int .i64))]⟩
@[reducible] noncomputable def fQ26.us:List (CutU TT (TupT ST [.int .i64])):=[⟨9,fQ26.l0.c,fun k x=>fQ26.l0 k x.1 x.2.1 x.2.2.1 x.2.2.2.1 x.2.2.2.2.1 x.2.2.2.2.2.1 x.2.2.2.2.2.2.1 x.2.2.2.2.2.2.2.1 x.2.2.2.2.2.2.2.2⟩,⟨16,fQ26.l1.c,fun k x=>fQ26.l1 k x.1 x.2.1 x.2.2.1 x.2.2.2.1 x.2.2.2.2.1 x.2.2.2.2.2.1 x.2.2.2.2.2.2.1 x.2.2.2.2.2.2.2.1 x.2.2.2.2.2.2.2.2.1 x.2.2.2.2.2.2.2.2.2⟩]
noncomputable def fQ26.ents (k:Nat):Ents TT:=⟨[fQ81.ent,fQ92.ent,fQ26.ent k],[],[]⟩
noncomputable def fQ26.l0.raw (k:Nat) (x0:List (I_Sym)) (x3:List (Int)) (x9:List (Int)) (x10:Int) (x58:List (I_Term)) (x59:Int) (x60:Int) (b5_0:Int) (b5_1:List (List (Int))):Option (Int):=if x60<x59 then (if 0≤x60 then (if x60<(x58.length:Int) then ((fQ26.f k x0 b5_0 b5_1 ((rd_I_Term x58 x60).f0) ((rd_I_Term x58 x60).f1) ((rd_I_Term x58 x60).f2) x3).bind fun t4=>(if 0≤(wr .i64 (x10+(wr .i64 (b5_0*t4)))) then (if (wr .i64 (x10+(wr .i64 (b5_0*t4))))<(x9.length:Int) then (fQ26.l0 k x0 x3 x9 (rd x9 (wr .i64 (x10+(wr .i64 (b5_0*t4))))) x58 x59 (wr .i64 (x60+1)) b5_0 b5_1) else none) else none)) else none) else none) else (some x10)
theorem fQ26.l0.clean (k:Nat) (x0:List (I_Sym)) (x3:List (Int)) (x9:List (Int)) (x10:Int) (x58:List (I_Term)) (x59:Int) (x60:Int) (b5_0:Int) (b5_1:List (List (Int))):fQ26.l0.raw k x0 x3 x9 x10 x58 x59 x60 b5_0 b5_1=fQ26.l0 (k+1) x0 x3 x9 x10 x58 x59 x60 b5_0 b5_1:=by
 rw [fQ26.l0.raw,fQ26.l0]
 simp only [wr_i64]
theorem fQ26.l0.chk (k:Nat) (x:TupT ST [.lst (.st 0),.lst (.int .i64),.lst (.int .i64),.int .i64,.lst (.st 1),.int .i64,.int .i64,.int .i64,.lst (.lst (.int .i64))]):runU TT (calF [] (fQ26.ents k)) (jmps fQ26.us k) (finK Tryz.f117 (retK TT (.one) [.int .i64])) Tryz.f117 (some 9) (canonC fQ26.l0.c x)=fQ26.l0 (k+1) x.1 x.2.1 x.2.2.1 x.2.2.2.1 x.2.2.2.2.1 x.2.2.2.2.2.1 x.2.2.2.2.2.2.1 x.2.2.2.2.2.2.2.1 x.2.2.2.2.2.2.2.2:=Eq.trans (show _=fQ26.l0.raw k x.1 x.2.1 x.2.2.1 x.2.2.2.1 x.2.2.2.2.1 x.2.2.2.2.2.1 x.2.2.2.2.2.2.1 x.2.2.2.2.2.2.2.1 x.2.2.2.2.2.2.2.2 by kernel_rfl) (fQ26.l0.clean k x.1 x.2.1 x.2.2.1 x.2.2.2.1 x.2.2.2.2.1 x.2.2.2.2.2.1 x.2.2.2.2.2.2.1 x.2.2.2.2.2.2.2.1 x.2.2.2.2.2.2.2.2)
noncomputable def fQ26.l1.raw (k:Nat) (x0:List (I_Sym)) (x3:List (Int)) (x9:List (Int)) (x13:Int) (x14:Int) (x80:List (I_Term)) (x81:Int) (x82:Int) (b5_0:Int) (b5_1:List (List (Int))):Option (Int):=if x82<x81 then (if 0≤x82 then (if x82<(x80.length:Int) then ((fQ26.f k x0 b5_0 b5_1 ((rd_I_Term x80 x82).f0) ((rd_I_Term x80 x82).f1) ((rd_I_Term x80 x82).f2) x3).bind fun t5=>(fQ26.l1 k x0 x3 x9 (wr .i64 (x13+(wr .i64 (x14*t5)))) (wr .i64 (x14*b5_0)) x80 x81 (wr .i64 (x82+1)) b5_0 b5_1)) else none) else none) else (if 0≤x13 then (if x13<(x9.length:Int) then (some (rd x9 x13)) else none) else none)
theorem fQ26.l1.clean (k:Nat) (x0:List (I_Sym)) (x3:List (Int)) (x9:List (Int)) (x13:Int) (x14:Int) (x80:List (I_Term)) (x81:Int) (x82:Int) (b5_0:Int) (b5_1:List (List (Int))):fQ26.l1.raw k x0 x3 x9 x13 x14 x80 x81 x82 b5_0 b5_1=fQ26.l1 (k+1) x0 x3 x9 x13 x14 x80 x81 x82 b5_0 b5_1:=by
 rw [fQ26.l1.raw,fQ26.l1]
 simp only [wr_i64]
theorem fQ26.l1.chk (k:Nat) (x:TupT ST [.lst (.st 0),.lst (.int .i64),.lst (.int .i64),.int .i64,.int .i64,.lst (.st 1),.int .i64,.int .i64,.int .i64,.lst (.lst (.int .i64))]):runU TT (calF [] (fQ26.ents k)) (jmps fQ26.us k) (finK Tryz.f117 (retK TT (.one) [.int .i64])) Tryz.f117 (some 16) (canonC fQ26.l1.c x)=fQ26.l1 (k+1) x.1 x.2.1 x.2.2.1 x.2.2.2.1 x.2.2.2.2.1 x.2.2.2.2.2.1 x.2.2.2.2.2.2.1 x.2.2.2.2.2.2.2.1 x.2.2.2.2.2.2.2.2.1 x.2.2.2.2.2.2.2.2.2:=Eq.trans (show _=fQ26.l1.raw k x.1 x.2.1 x.2.2.1 x.2.2.2.1 x.2.2.2.2.1 x.2.2.2.2.2.1 x.2.2.2.2.2.2.1 x.2.2.2.2.2.2.2.1 x.2.2.2.2.2.2.2.2.1 x.2.2.2.2.2.2.2.2.2 by kernel_rfl) (fQ26.l1.clean k x.1 x.2.1 x.2.2.1 x.2.2.2.1 x.2.2.2.2.1 x.2.2.2.2.2.1 x.2.2.2.2.2.2.1 x.2.2.2.2.2.2.2.1 x.2.2.2.2.2.2.2.2.1 x.2.2.2.2.2.2.2.2.2)
noncomputable def fQ26.raw (k:Nat) (l0:List (I_Sym)) (a1_0:Int) (l1_1:List (List (Int))) (a2_0:Int) (a2_1:Int) (l2_2:List (I_Term)) (l3:List (Int)):Option (Int):=(fQ81.f a2_0 a2_1 l2_2).bind fun t1=>(if t1=true then (if a2_1≥(l3.length:Int) then (some 0) else (if 0≤a2_1 then (if a2_1<(l3.length:Int) then (if a1_0=0 then none else (if a1_0=0 then none else (some (Int.tmod (wr .i64 ((Int.tmod (rd l3 a2_1) a1_0)+a1_0)) a1_0)))) else none) else none)) else (if 0≤a2_0 then (if a2_0<(l1_1.length:Int) then ((fQ92.f l0 a2_0).bind fun t2=>(if t2=true then (if (0:Int)≤0 then (if 0<(l2_2.length:Int) then ((fQ26.f k l0 a1_0 l1_1 ((rd_I_Term l2_2 0).f0) ((rd_I_Term l2_2 0).f1) ((rd_I_Term l2_2 0).f2) l3).bind fun t3=>(if (0:Int)≤1 then (if 1≤(l2_2.length:Int) then (fQ26.l0 k l0 l3 (rd_Ls_i64 l1_1 a2_0) t3 (l2_2.drop (1:Int).toNat) ((l2_2.drop (1:Int).toNat).length:Int) 0 a1_0 l1_1) else none) else none)) else none) else none) else (fQ26.l1 k l0 l3 (rd_Ls_i64 l1_1 a2_0) 0 1 l2_2 (l2_2.length:Int) 0 a1_0 l1_1))) else none) else none))
theorem fQ26.clean (k:Nat) (l0:List (I_Sym)) (a1_0:Int) (l1_1:List (List (Int))) (a2_0:Int) (a2_1:Int) (l2_2:List (I_Term)) (l3:List (Int)):fQ26.raw k l0 a1_0 l1_1 a2_0 a2_1 l2_2 l3=fQ26.f (k+1) l0 a1_0 l1_1 a2_0 a2_1 l2_2 l3:=by
 rw [fQ26.raw,fQ26.f]
 simp only [wr_i64]
 exact bind_cg fun t1=>(ite_congr rfl (fun h0=>ite_congr rfl (fun h1=>rfl) (fun h1=>ite_congr rfl (fun h2=>ite_congr rfl (fun h3=>ite_congr rfl (fun h4=>rfl) (fun h4=>if_neg h4)) (fun h3=>rfl)) (fun h2=>rfl))) (fun h0=>ite_congr rfl (fun h1=>ite_congr rfl (fun h2=>bind_cg fun t2=>(ite_congr rfl (fun h3=>Eq.trans (if_pos (by decide)) (ite_congr rfl (fun h4=>bind_cg fun t3=>(if_pos (by decide))) (fun h4=>rfl))) (fun h3=>rfl))) (fun h2=>rfl)) (fun h1=>rfl)))
theorem fQ26.chk (k:Nat) (x:TupT ST [.lst (.st 0),.int .i64,.lst (.lst (.int .i64)),.int .i64,.int .i64,.lst (.st 1),.lst (.int .i64)]):runU TT (calF [] (fQ26.ents k)) (jmps fQ26.us k) (finK Tryz.f117 (retK TT (.one) [.int .i64])) Tryz.f117 none (canon (args0 0 (argL [.one,.agg 2,.agg 3,.one] [.lst (.st 0),.int .i64,.lst (.lst (.int .i64)),.int .i64,.int .i64,.lst (.st 1),.lst (.int .i64)] x)) [])=fQ26.f (k+1) x.1 x.2.1 x.2.2.1 x.2.2.2.1 x.2.2.2.2.1 x.2.2.2.2.2.1 x.2.2.2.2.2.2:=Eq.trans (show _=fQ26.raw k x.1 x.2.1 x.2.2.1 x.2.2.2.1 x.2.2.2.2.1 x.2.2.2.2.2.1 x.2.2.2.2.2.2 by kernel_rfl) (fQ26.clean k x.1 x.2.1 x.2.2.1 x.2.2.2.1 x.2.2.2.2.1 x.2.2.2.2.2.1 x.2.2.2.2.2.2)
theorem fQ26.grp:∀k:Nat,EachU (EntOk Tryz.prog TT) [fQ26.ent k]∧EachU (Ent2Ok Tryz.prog TT) []:=by
 intro k
 induction k using Nat.strongRecOn with
 | ind k ih=>
  exact And.intro (And.intro (fun_in tbl mixed 117 Tryz.f117 Tryz.func117 rfl (by kernel_rfl) [.one,.agg 2,.agg 3,.one] [.lst (.st 0),.int .i64,.lst (.lst (.int .i64)),.int .i64,.int .i64,.lst (.st 1),.lst (.int .i64)] (.one) [.int .i64] (by kernel_rfl) [] fQ26.ents fQ26.us (And.intro (fun _=>rfl) (And.intro (fun _=>rfl) True.intro)) (And.intro fQ26.l0.chk (And.intro fQ26.l1.chk True.intro)) (fun k (x:TupT ST [.lst (.st 0),.int .i64,.lst (.lst (.int .i64)),.int .i64,.int .i64,.lst (.st 1),.lst (.int .i64)])=>fQ26.f k x.1 x.2.1 x.2.2.1 x.2.2.2.1 x.2.2.2.2.1 x.2.2.2.2.2.1 x.2.2.2.2.2.2) (fun _=>rfl) fQ26.chk k (fun j h=>EntsOk.mk (And.intro fQ81.ok (And.intro fQ92.ok (And.intro (ih j h).1.1 True.intro))) True.intro True.intro)) True.intro) True.intro
theorem fQ26.ok (k:Nat):EntOk Tryz.prog TT (fQ26.ent k):=(fQ26.grp k).1.1
noncomputable def fQ49.f (k:Nat) (a0_0:Bool) (a0_1:Int) (a0_2:Int) (a0_3:List (I_Term)) (a0_4:Int) (a0_5:Int) (a0_6:List (I_Term)) (c0_0:List (I_Sym)) (c1_0:Int) (c1_1:List (List (Int))) (c2_0:List (Int)):Option (Bool×(List (I_Sym))×Int×(List (List (Int)))×(List (Int))):=(fQ26.f k c0_0 c1_0 c1_1 a0_1 a0_2 a0_3 c2_0).bind fun t1=>((fQ26.f k c0_0 c1_0 c1_1 a0_4 a0_5 a0_6 c2_0).bind fun t2=>(some (decide ((decide (t1=t2))=a0_0),c0_0,c1_0,c1_1,c2_0)))
noncomputable def fQ49.pin:Cut:=⟨[],[(1073741824,0),(1073741825,1),(1073741826,0)],[(0,.agg [.one,.one,.one,.one,.one,.one,.one]),(1,.ptr 1073741824 0),(2,.ptr 1073741825 0),(3,.ptr 1073741826 0)],[(1073741824,[.one]),(1073741825,[.one,.one]),(1073741826,[.one])],[],[.bool,.int .i64,.int .i64,.lst (.st 1),.int .i64,.int .i64,.lst (.st 1),.lst (.st 0),.int .i64,.lst (.lst (.int .i64)),.lst (.int .i64)]⟩
noncomputable def fQ49.pout:Cut:=⟨[],[(1073741824,0),(1073741825,1),(1073741826,0)],[(5,.one)],[(1073741824,[.one]),(1073741825,[.one,.one]),(1073741826,[.one])],[],[.bool,.lst (.st 0),.int .i64,.lst (.lst (.int .i64)),.lst (.int .i64)]⟩
@[reducible] noncomputable def fQ49.us:List (CutU TT (TupT ST fQ49.pout.es)):=[]
noncomputable def fQ49.ent (k:Nat):Ent2 TT:=⟨280,4,fQ49.pin,fQ49.pout,Tryz.f280.results.toList,fun x=>fQ49.f k x.1 x.2.1 x.2.2.1 x.2.2.2.1 x.2.2.2.2.1 x.2.2.2.2.2.1 x.2.2.2.2.2.2.1 x.2.2.2.2.2.2.2.1 x.2.2.2.2.2.2.2.2.1 x.2.2.2.2.2.2.2.2.2.1 x.2.2.2.2.2.2.2.2.2.2⟩
noncomputable def fQ49.ents (k:Nat):Ents TT:=⟨[fQ26.ent k],[],[]⟩
theorem fQ49.chk (k:Nat) (x:TupT ST fQ49.pin.es):runU TT (calF [] (fQ49.ents k)) (jmps fQ49.us k) (finC fQ49.pout Tryz.f280.results.toList) Tryz.f280 none (canonC fQ49.pin x)=fQ49.f k x.1 x.2.1 x.2.2.1 x.2.2.2.1 x.2.2.2.2.1 x.2.2.2.2.2.1 x.2.2.2.2.2.2.1 x.2.2.2.2.2.2.2.1 x.2.2.2.2.2.2.2.2.1 x.2.2.2.2.2.2.2.2.2.1 x.2.2.2.2.2.2.2.2.2.2:=by kernel_rfl
theorem fQ49.ok (k:Nat):Ent2Ok Tryz.prog TT (fQ49.ent k):=
 fun_of2 tbl mixed 280 Tryz.f280 Tryz.func280 rfl (by kernel_rfl) 4 fQ49.pin fQ49.pout (by kernel_rfl) [] fQ49.ents fQ49.us True.intro True.intro (fun k (x:TupT ST fQ49.pin.es)=>fQ49.f k x.1 x.2.1 x.2.2.1 x.2.2.2.1 x.2.2.2.2.1 x.2.2.2.2.2.1 x.2.2.2.2.2.2.1 x.2.2.2.2.2.2.2.1 x.2.2.2.2.2.2.2.2.1 x.2.2.2.2.2.2.2.2.2.1 x.2.2.2.2.2.2.2.2.2.2) fQ49.chk (fun k=>EntsOk.mk (And.intro (fQ26.ok k) True.intro) True.intro True.intro) k
noncomputable def fQ0.l0:Nat→List (I_Lit)→Int→Int→List (I_Sym)→Int→List (List (Int))→List (Int)→Option (Int×(List (I_Sym))×Int×(List (List (Int)))×(List (Int)))
 | 0,_,_,_,_,_,_,_=>none
 | k+1,x0,x7,x8,b1073741824_0,b1073741825_0,b1073741825_1,b1073741826_0=>if x8<x7 then (if 0≤x8 then (if x8<(x0.length:Int) then ((fQ49.f k ((rd_I_Lit x0 x8).f0) ((rd_I_Lit x0 x8).f1.f0) ((rd_I_Lit x0 x8).f1.f1) ((rd_I_Lit x0 x8).f1.f2) ((rd_I_Lit x0 x8).f2.f0) ((rd_I_Lit x0 x8).f2.f1) ((rd_I_Lit x0 x8).f2.f2) b1073741824_0 b1073741825_0 b1073741825_1 b1073741826_0).bind fun t1=>(if t1.1=true then (some (x8,t1.2.1,t1.2.2.1,t1.2.2.2.1,t1.2.2.2.2)) else (fQ0.l0 k x0 x7 (wrap64 (x8+1)) t1.2.1 t1.2.2.1 t1.2.2.2.1 t1.2.2.2.2))) else none) else none) else (some ((-1),b1073741824_0,b1073741825_0,b1073741825_1,b1073741826_0))
noncomputable def fQ0.f (k:Nat) (l0:List (I_Lit)) (c0_0:List (I_Sym)) (c1_0:Int) (c1_1:List (List (Int))) (c2_0:List (Int)):Option (Int×(List (I_Sym))×Int×(List (List (Int)))×(List (Int))):=fQ0.l0 k l0 (l0.length:Int) 0 c0_0 c1_0 c1_1 c2_0
noncomputable def fQ0.pin:Cut:=⟨[0],[(1073741824,0),(1073741825,1),(1073741826,0)],[(0,.one),(1,.clo 280 [.ptr 1073741824 0,.ptr 1073741825 0,.ptr 1073741826 0])],[(1073741824,[.one]),(1073741825,[.one,.one]),(1073741826,[.one])],[],[.lst (.st 3),.lst (.st 0),.int .i64,.lst (.lst (.int .i64)),.lst (.int .i64)]⟩
noncomputable def fQ0.pout:Cut:=⟨[],[(1073741824,0),(1073741825,1),(1073741826,0)],[(4,.one)],[(1073741824,[.one]),(1073741825,[.one,.one]),(1073741826,[.one])],[],[.int .i64,.lst (.st 0),.int .i64,.lst (.lst (.int .i64)),.lst (.int .i64)]⟩
noncomputable def fQ0.l0.c:Cut:=⟨[0],[(1073741824,0),(1073741825,1),(1073741826,0)],[(0,.one),(1,.clo 280 [.ptr 1073741824 0,.ptr 1073741825 0,.ptr 1073741826 0]),(7,.one),(8,.one)],[(1073741824,[.one]),(1073741825,[.one,.one]),(1073741826,[.one])],[],[.lst (.st 3),.int .i64,.int .i64,.lst (.st 0),.int .i64,.lst (.lst (.int .i64)),.lst (.int .i64)]⟩
@[reducible] noncomputable def fQ0.us:List (CutU TT (TupT ST fQ0.pout.es)):=[⟨2,fQ0.l0.c,fun k x=>fQ0.l0 k x.1 x.2.1 x.2.2.1 x.2.2.2.1 x.2.2.2.2.1 x.2.2.2.2.2.1 x.2.2.2.2.2.2⟩]
noncomputable def fQ0.ent (k:Nat):Ent2 TT:=⟨253,2,fQ0.pin,fQ0.pout,Tryz.f253.results.toList,fun x=>fQ0.f k x.1 x.2.1 x.2.2.1 x.2.2.2.1 x.2.2.2.2⟩
noncomputable def fQ0.ents (k:Nat):Ents TT:=⟨[],[fQ49.ent k],[]⟩
noncomputable def fQ0.l0.raw (k:Nat) (x0:List (I_Lit)) (x7:Int) (x8:Int) (b1073741824_0:List (I_Sym)) (b1073741825_0:Int) (b1073741825_1:List (List (Int))) (b1073741826_0:List (Int)):Option (Int×(List (I_Sym))×Int×(List (List (Int)))×(List (Int))):=if x8<x7 then (if 0≤x8 then (if x8<(x0.length:Int) then ((fQ49.f k ((rd_I_Lit x0 x8).f0) ((rd_I_Lit x0 x8).f1.f0) ((rd_I_Lit x0 x8).f1.f1) ((rd_I_Lit x0 x8).f1.f2) ((rd_I_Lit x0 x8).f2.f0) ((rd_I_Lit x0 x8).f2.f1) ((rd_I_Lit x0 x8).f2.f2) b1073741824_0 b1073741825_0 b1073741825_1 b1073741826_0).bind fun t1=>(if t1.1=true then (some (x8,t1.2.1,t1.2.2.1,t1.2.2.2.1,t1.2.2.2.2)) else (fQ0.l0 k x0 x7 (wr .i64 (x8+1)) t1.2.1 t1.2.2.1 t1.2.2.2.1 t1.2.2.2.2))) else none) else none) else (some ((-1),b1073741824_0,b1073741825_0,b1073741825_1,b1073741826_0))
theorem fQ0.l0.clean (k:Nat) (x0:List (I_Lit)) (x7:Int) (x8:Int) (b1073741824_0:List (I_Sym)) (b1073741825_0:Int) (b1073741825_1:List (List (Int))) (b1073741826_0:List (Int)):fQ0.l0.raw k x0 x7 x8 b1073741824_0 b1073741825_0 b1073741825_1 b1073741826_0=fQ0.l0 (k+1) x0 x7 x8 b1073741824_0 b1073741825_0 b1073741825_1 b1073741826_0:=by
 rw [fQ0.l0.raw,fQ0.l0]
 simp only [wr_i64]
theorem fQ0.l0.chk (k:Nat) (x:TupT ST [.lst (.st 3),.int .i64,.int .i64,.lst (.st 0),.int .i64,.lst (.lst (.int .i64)),.lst (.int .i64)]):runU TT (calF [] (fQ0.ents k)) (jmps fQ0.us k) (finC fQ0.pout Tryz.f253.results.toList) Tryz.f253 (some 2) (canonC fQ0.l0.c x)=fQ0.l0 (k+1) x.1 x.2.1 x.2.2.1 x.2.2.2.1 x.2.2.2.2.1 x.2.2.2.2.2.1 x.2.2.2.2.2.2:=Eq.trans (show _=fQ0.l0.raw k x.1 x.2.1 x.2.2.1 x.2.2.2.1 x.2.2.2.2.1 x.2.2.2.2.2.1 x.2.2.2.2.2.2 by kernel_rfl) (fQ0.l0.clean k x.1 x.2.1 x.2.2.1 x.2.2.2.1 x.2.2.2.2.1 x.2.2.2.2.2.1 x.2.2.2.2.2.2)
theorem fQ0.chk (k:Nat) (x:TupT ST fQ0.pin.es):runU TT (calF [] (fQ0.ents k)) (jmps fQ0.us k) (finC fQ0.pout Tryz.f253.results.toList) Tryz.f253 none (canonC fQ0.pin x)=fQ0.f k x.1 x.2.1 x.2.2.1 x.2.2.2.1 x.2.2.2.2:=by kernel_rfl
theorem fQ0.ok (k:Nat):Ent2Ok Tryz.prog TT (fQ0.ent k):=
 fun_of2 tbl mixed 253 Tryz.f253 Tryz.func253 rfl (by kernel_rfl) 2 fQ0.pin fQ0.pout (by kernel_rfl) [] fQ0.ents fQ0.us (And.intro (fun _=>rfl) True.intro) (And.intro fQ0.l0.chk True.intro) (fun k (x:TupT ST fQ0.pin.es)=>fQ0.f k x.1 x.2.1 x.2.2.1 x.2.2.2.1 x.2.2.2.2) fQ0.chk (fun k=>EntsOk.mk True.intro (And.intro (fQ49.ok k) True.intro) True.intro) k
noncomputable def fQ5.f (k:Nat) (l0:List (I_Lit)) (c0_0:List (I_Sym)) (c1_0:Int) (c1_1:List (List (Int))) (c2_0:List (Int)):Option (Bool×(List (I_Sym))×Int×(List (List (Int)))×(List (Int))):=(fQ0.f k l0 c0_0 c1_0 c1_1 c2_0).bind fun t1=>(some (decide (t1.1≥0),t1.2.1,t1.2.2.1,t1.2.2.2.1,t1.2.2.2.2))
noncomputable def fQ5.pin:Cut:=⟨[0],[(1073741824,0),(1073741825,1),(1073741826,0)],[(0,.one),(1,.clo 280 [.ptr 1073741824 0,.ptr 1073741825 0,.ptr 1073741826 0])],[(1073741824,[.one]),(1073741825,[.one,.one]),(1073741826,[.one])],[],[.lst (.st 3),.lst (.st 0),.int .i64,.lst (.lst (.int .i64)),.lst (.int .i64)]⟩
noncomputable def fQ5.pout:Cut:=⟨[],[(1073741824,0),(1073741825,1),(1073741826,0)],[(4,.one)],[(1073741824,[.one]),(1073741825,[.one,.one]),(1073741826,[.one])],[],[.bool,.lst (.st 0),.int .i64,.lst (.lst (.int .i64)),.lst (.int .i64)]⟩
@[reducible] noncomputable def fQ5.us:List (CutU TT (TupT ST fQ5.pout.es)):=[]
noncomputable def fQ5.ent (k:Nat):Ent2 TT:=⟨163,2,fQ5.pin,fQ5.pout,Tryz.f163.results.toList,fun x=>fQ5.f k x.1 x.2.1 x.2.2.1 x.2.2.2.1 x.2.2.2.2⟩
noncomputable def fQ5.ents (k:Nat):Ents TT:=⟨[],[fQ0.ent k],[]⟩
theorem fQ5.chk (k:Nat) (x:TupT ST fQ5.pin.es):runU TT (calF [] (fQ5.ents k)) (jmps fQ5.us k) (finC fQ5.pout Tryz.f163.results.toList) Tryz.f163 none (canonC fQ5.pin x)=fQ5.f k x.1 x.2.1 x.2.2.1 x.2.2.2.1 x.2.2.2.2:=by kernel_rfl
theorem fQ5.ok (k:Nat):Ent2Ok Tryz.prog TT (fQ5.ent k):=
 fun_of2 tbl mixed 163 Tryz.f163 Tryz.func163 rfl (by kernel_rfl) 2 fQ5.pin fQ5.pout (by kernel_rfl) [] fQ5.ents fQ5.us True.intro True.intro (fun k (x:TupT ST fQ5.pin.es)=>fQ5.f k x.1 x.2.1 x.2.2.1 x.2.2.2.1 x.2.2.2.2) fQ5.chk (fun k=>EntsOk.mk True.intro (And.intro (fQ0.ok k) True.intro) True.intro) k
noncomputable def fQ78.f (k:Nat) (l0:List (I_Sym)) (a1_0:Int) (l1_1:List (List (Int))) (l2_0:List (I_Lit)) (l3:List (Int)):Option (Bool):=(fQ5.f k l2_0 l0 a1_0 l1_1 l3).bind fun t1=>(some t1.1)
@[reducible] noncomputable def fQ78.us:List (CutU TT (TupT ST [.bool])):=[]
noncomputable def fQ78.ent (k:Nat):Ent TT:=⟨223,[.one,.agg 2,.agg 1,.one],[.lst (.st 0),.int .i64,.lst (.lst (.int .i64)),.lst (.st 3),.lst (.int .i64)],.one,[.bool],fun x=>fQ78.f k x.1 x.2.1 x.2.2.1 x.2.2.2.1 x.2.2.2.2⟩
noncomputable def fQ78.ents (k:Nat):Ents TT:=⟨[],[fQ5.ent k],[]⟩
theorem fQ78.chk (k:Nat) (x:TupT ST [.lst (.st 0),.int .i64,.lst (.lst (.int .i64)),.lst (.st 3),.lst (.int .i64)]):runU TT (calF [] (fQ78.ents k)) (jmps fQ78.us k) (finK Tryz.f223 (retK TT (.one) [.bool])) Tryz.f223 none (canon (args0 0 (argL [.one,.agg 2,.agg 1,.one] [.lst (.st 0),.int .i64,.lst (.lst (.int .i64)),.lst (.st 3),.lst (.int .i64)] x)) [])=fQ78.f k x.1 x.2.1 x.2.2.1 x.2.2.2.1 x.2.2.2.2:=by kernel_rfl
theorem fQ78.ok (k:Nat):EntOk Tryz.prog TT (fQ78.ent k):=
 fun_of tbl mixed 223 Tryz.f223 Tryz.func223 rfl (by kernel_rfl) [.one,.agg 2,.agg 1,.one] [.lst (.st 0),.int .i64,.lst (.lst (.int .i64)),.lst (.st 3),.lst (.int .i64)] (.one) [.bool] (by kernel_rfl) [] fQ78.ents fQ78.us True.intro True.intro (fun k (x:TupT ST [.lst (.st 0),.int .i64,.lst (.lst (.int .i64)),.lst (.st 3),.lst (.int .i64)])=>fQ78.f k x.1 x.2.1 x.2.2.1 x.2.2.2.1 x.2.2.2.2) fQ78.chk (fun k=>EntsOk.mk True.intro (And.intro (fQ5.ok k) True.intro) True.intro) k
mutual
noncomputable def fQ30.l0:Nat→List (I_Sym)→List (Int)→List (Int)→Int→List (List (Int))→List (I_Lit)→Option (Bool)
 | 0,_,_,_,_,_,_=>none
 | k+1,x0,x7,x8,b4_0,b4_1,b5_0=>(fQ78.f k x0 b4_0 b4_1 b5_0 x8).bind fun t2=>(if t2=true then (fQ30.l1 k x0 x7 x8 0 b4_0 b4_1 b5_0) else (some false))
noncomputable def fQ30.l1:Nat→List (I_Sym)→List (Int)→List (Int)→Int→Int→List (List (Int))→List (I_Lit)→Option (Bool)
 | 0,_,_,_,_,_,_,_=>none
 | k+1,x0,x7,x8,x9,b4_0,b4_1,b5_0=>if x9<(x7.length:Int) then (if 0≤x9 then (if 0≤(rd x7 x9) then (if (rd x7 x9)<(x8.length:Int) then (if (rd x8 (rd x7 x9))=(wrap64 (b4_0 - 1)) then (fQ30.l1 k x0 x7 (x8.set (rd x7 x9:Int).toNat 0) (wrap64 (x9+1)) b4_0 b4_1 b5_0) else (if x9=(x7.length:Int) then (some true) else (fQ30.l0 k x0 x7 (x8.set (rd x7 x9:Int).toNat (wrap64 ((rd x8 (rd x7 x9))+1))) b4_0 b4_1 b5_0))) else none) else none) else none) else (if x9=(x7.length:Int) then (some true) else (if 0≤x9 then none else none))
end
noncomputable def fQ30.f (k:Nat) (l0:List (I_Sym)) (a1_0:Int) (l1_1:List (List (Int))) (l2_0:List (I_Lit)):Option (Bool):=(fQ23.f k l2_0).bind fun t1=>(fQ30.l0 k l0 t1 (List.replicate (100:Int).toNat 0) a1_0 l1_1 l2_0)
noncomputable def fQ30.l0.c:Cut:=⟨[0,7],[(4,1),(5,0)],[(0,.one),(4,.ptr 4 0),(5,.ptr 5 0),(7,.one),(8,.own 12)],[(4,[.one,.one]),(5,[.one])],[(12,.int .i64)],[.lst (.st 0),.lst (.int .i64),.int .i64,.lst (.lst (.int .i64)),.lst (.st 3),.lst (.int .i64)]⟩
noncomputable def fQ30.l1.c:Cut:=⟨[0,7],[(4,1),(5,0)],[(0,.one),(4,.ptr 4 0),(5,.ptr 5 0),(7,.one),(8,.own 12),(9,.one)],[(4,[.one,.one]),(5,[.one])],[(12,.int .i64)],[.lst (.st 0),.lst (.int .i64),.int .i64,.int .i64,.lst (.lst (.int .i64)),.lst (.st 3),.lst (.int .i64)]⟩
@[reducible] noncomputable def fQ30.us:List (CutU TT (TupT ST [.bool])):=[⟨3,fQ30.l0.c,fun k x=>fQ30.l0 k x.1 x.2.1 x.2.2.2.2.2 x.2.2.1 x.2.2.2.1 x.2.2.2.2.1⟩,⟨6,fQ30.l1.c,fun k x=>fQ30.l1 k x.1 x.2.1 x.2.2.2.2.2.2 x.2.2.1 x.2.2.2.1 x.2.2.2.2.1 x.2.2.2.2.2.1⟩]
noncomputable def fQ30.ent (k:Nat):Ent TT:=⟨100,[.one,.agg 2,.agg 1],[.lst (.st 0),.int .i64,.lst (.lst (.int .i64)),.lst (.st 3)],.one,[.bool],fun x=>fQ30.f k x.1 x.2.1 x.2.2.1 x.2.2.2⟩
noncomputable def fQ30.ents (k:Nat):Ents TT:=⟨[fQ23.ent k,fQ78.ent k],[],[]⟩
noncomputable def fQ30.l0.raw (k:Nat) (x0:List (I_Sym)) (x7:List (Int)) (x8:List (Int)) (b4_0:Int) (b4_1:List (List (Int))) (b5_0:List (I_Lit)):Option (Bool):=(fQ78.f k x0 b4_0 b4_1 b5_0 x8).bind fun t2=>(if (!t2)=true then (some false) else (fQ30.l1 k x0 x7 x8 0 b4_0 b4_1 b5_0))
theorem fQ30.l0.clean (k:Nat) (x0:List (I_Sym)) (x7:List (Int)) (x8:List (Int)) (b4_0:Int) (b4_1:List (List (Int))) (b5_0:List (I_Lit)):fQ30.l0.raw k x0 x7 x8 b4_0 b4_1 b5_0=fQ30.l0 (k+1) x0 x7 x8 b4_0 b4_1 b5_0:=by
 rw [fQ30.l0.raw,fQ30.l0]
 exact bind_cg fun t2=>(ite_nb _ _ _)
theorem fQ30.l0.chk (k:Nat) (x:TupT ST [.lst (.st 0),.lst (.int .i64),.int .i64,.lst (.lst (.int .i64)),.lst (.st 3),.lst (.int .i64)]):runU TT (calF [] (fQ30.ents k)) (jmps fQ30.us k) (finK Tryz.f100 (retK TT (.one) [.bool])) Tryz.f100 (some 3) (canonC fQ30.l0.c x)=fQ30.l0 (k+1) x.1 x.2.1 x.2.2.2.2.2 x.2.2.1 x.2.2.2.1 x.2.2.2.2.1:=Eq.trans (show _=fQ30.l0.raw k x.1 x.2.1 x.2.2.2.2.2 x.2.2.1 x.2.2.2.1 x.2.2.2.2.1 by kernel_rfl) (fQ30.l0.clean k x.1 x.2.1 x.2.2.2.2.2 x.2.2.1 x.2.2.2.1 x.2.2.2.2.1)
noncomputable def fQ30.l1.raw (k:Nat) (x0:List (I_Sym)) (x7:List (Int)) (x8:List (Int)) (x9:Int) (b4_0:Int) (b4_1:List (List (Int))) (b5_0:List (I_Lit)):Option (Bool):=if x9<(x7.length:Int) then (if 0≤x9 then (if x9<(x7.length:Int) then (if 0≤(rd x7 x9) then (if (rd x7 x9)<(x8.length:Int) then (if (rd x8 (rd x7 x9))=(wr .i64 (b4_0 - 1)) then (if 0≤x9 then (if x9<(x7.length:Int) then (if 0≤(rd x7 x9) then (if (rd x7 x9)<(x8.length:Int) then (fQ30.l1 k x0 x7 (x8.set (rd x7 x9:Int).toNat 0) (wr .i64 (x9+1)) b4_0 b4_1 b5_0) else none) else none) else none) else none) else (if x9=(x7.length:Int) then (some true) else (if 0≤x9 then (if x9<(x7.length:Int) then (if 0≤(rd x7 x9) then (if (rd x7 x9)<(x8.length:Int) then (if 0≤(rd x7 x9) then (if (rd x7 x9)<(x8.length:Int) then (fQ30.l0 k x0 x7 (x8.set (rd x7 x9:Int).toNat (wr .i64 ((rd x8 (rd x7 x9))+1))) b4_0 b4_1 b5_0) else none) else none) else none) else none) else none) else none))) else none) else none) else none) else none) else (if x9=(x7.length:Int) then (some true) else (if 0≤x9 then (if x9<(x7.length:Int) then (if 0≤(rd x7 x9) then (if (rd x7 x9)<(x8.length:Int) then (if 0≤(rd x7 x9) then (if (rd x7 x9)<(x8.length:Int) then (fQ30.l0 k x0 x7 (x8.set (rd x7 x9:Int).toNat (wr .i64 ((rd x8 (rd x7 x9))+1))) b4_0 b4_1 b5_0) else none) else none) else none) else none) else none) else none))
theorem fQ30.l1.clean (k:Nat) (x0:List (I_Sym)) (x7:List (Int)) (x8:List (Int)) (x9:Int) (b4_0:Int) (b4_1:List (List (Int))) (b5_0:List (I_Lit)):fQ30.l1.raw k x0 x7 x8 x9 b4_0 b4_1 b5_0=fQ30.l1 (k+1) x0 x7 x8 x9 b4_0 b4_1 b5_0:=by
 rw [fQ30.l1.raw,fQ30.l1]
 simp only [wr_i64]
 exact ite_congr rfl (fun h0=>ite_congr rfl (fun h1=>Eq.trans (if_pos h0) (ite_congr rfl (fun h2=>ite_congr rfl (fun h3=>ite_congr rfl (fun h4=>Eq.trans (if_pos h1) (Eq.trans (if_pos h0) (Eq.trans (if_pos h2) (if_pos h3)))) (fun h4=>ite_congr rfl (fun h5=>rfl) (fun h5=>Eq.trans (if_pos h1) (Eq.trans (if_pos h0) (Eq.trans (if_pos h2) (Eq.trans (if_pos h3) (Eq.trans (if_pos h2) (if_pos h3)))))))) (fun h3=>rfl)) (fun h2=>rfl))) (fun h1=>rfl)) (fun h0=>ite_congr rfl (fun h1=>rfl) (fun h1=>ite_congr rfl (fun h2=>if_neg h0) (fun h2=>rfl)))
theorem fQ30.l1.chk (k:Nat) (x:TupT ST [.lst (.st 0),.lst (.int .i64),.int .i64,.int .i64,.lst (.lst (.int .i64)),.lst (.st 3),.lst (.int .i64)]):runU TT (calF [] (fQ30.ents k)) (jmps fQ30.us k) (finK Tryz.f100 (retK TT (.one) [.bool])) Tryz.f100 (some 6) (canonC fQ30.l1.c x)=fQ30.l1 (k+1) x.1 x.2.1 x.2.2.2.2.2.2 x.2.2.1 x.2.2.2.1 x.2.2.2.2.1 x.2.2.2.2.2.1:=Eq.trans (show _=fQ30.l1.raw k x.1 x.2.1 x.2.2.2.2.2.2 x.2.2.1 x.2.2.2.1 x.2.2.2.2.1 x.2.2.2.2.2.1 by kernel_rfl) (fQ30.l1.clean k x.1 x.2.1 x.2.2.2.2.2.2 x.2.2.1 x.2.2.2.1 x.2.2.2.2.1 x.2.2.2.2.2.1)
noncomputable def fQ30.raw (k:Nat) (l0:List (I_Sym)) (a1_0:Int) (l1_1:List (List (Int))) (l2_0:List (I_Lit)):Option (Bool):=(fQ23.f k l2_0).bind fun t1=>(if (0:Int)≤100 then (if (100:Int)≤100 then (if (100:Int)≤1599289640401 then (fQ30.l0 k l0 t1 (List.replicate (100:Int).toNat 0) a1_0 l1_1 l2_0) else none) else none) else none)
theorem fQ30.clean (k:Nat) (l0:List (I_Sym)) (a1_0:Int) (l1_1:List (List (Int))) (l2_0:List (I_Lit)):fQ30.raw k l0 a1_0 l1_1 l2_0=fQ30.f k l0 a1_0 l1_1 l2_0:=by
 rw [fQ30.raw,fQ30.f]
 exact bind_cg fun t1=>(Eq.trans (if_pos (by decide)) (Eq.trans (if_pos (by decide)) (if_pos (by decide))))
theorem fQ30.chk (k:Nat) (x:TupT ST [.lst (.st 0),.int .i64,.lst (.lst (.int .i64)),.lst (.st 3)]):runU TT (calF [] (fQ30.ents k)) (jmps fQ30.us k) (finK Tryz.f100 (retK TT (.one) [.bool])) Tryz.f100 none (canon (args0 0 (argL [.one,.agg 2,.agg 1] [.lst (.st 0),.int .i64,.lst (.lst (.int .i64)),.lst (.st 3)] x)) [])=fQ30.f k x.1 x.2.1 x.2.2.1 x.2.2.2:=Eq.trans (show _=fQ30.raw k x.1 x.2.1 x.2.2.1 x.2.2.2 by kernel_rfl) (fQ30.clean k x.1 x.2.1 x.2.2.1 x.2.2.2)
theorem fQ30.ok (k:Nat):EntOk Tryz.prog TT (fQ30.ent k):=
 fun_of tbl mixed 100 Tryz.f100 Tryz.func100 rfl (by kernel_rfl) [.one,.agg 2,.agg 1] [.lst (.st 0),.int .i64,.lst (.lst (.int .i64)),.lst (.st 3)] (.one) [.bool] (by kernel_rfl) [] fQ30.ents fQ30.us (And.intro (fun _=>rfl) (And.intro (fun _=>rfl) True.intro)) (And.intro fQ30.l0.chk (And.intro fQ30.l1.chk True.intro)) (fun k (x:TupT ST [.lst (.st 0),.int .i64,.lst (.lst (.int .i64)),.lst (.st 3)])=>fQ30.f k x.1 x.2.1 x.2.2.1 x.2.2.2) fQ30.chk (fun k=>EntsOk.mk (And.intro (fQ23.ok k) (And.intro (fQ78.ok k) True.intro)) True.intro True.intro) k
noncomputable def impl_True.f (k:Nat) (l0:List (I_Sym)) (a1_0:Int) (l1_1:List (List (Int))) (l2_0:List (I_Lit)):Option (Bool):=(fQ38.f k l0 a1_0 l1_1).bind fun t1=>(if t1=true then ((fQ45.f k l0 l2_0).bind fun t2=>(if t2=true then ((fQ23.f k l2_0).bind fun t3=>(if (t3.length:Int)≤4 then ((fQ30.f k l0 a1_0 l1_1 l2_0).bind fun t4=>(some t4)) else (some false))) else (some false))) else (some false))
@[reducible] noncomputable def impl_True.us:List (CutU TT (TupT ST [.bool])):=[]
noncomputable def impl_True.ent (k:Nat):Ent TT:=⟨29,[.one,.agg 2,.agg 1],[.lst (.st 0),.int .i64,.lst (.lst (.int .i64)),.lst (.st 3)],.one,[.bool],fun x=>impl_True.f k x.1 x.2.1 x.2.2.1 x.2.2.2⟩
noncomputable def impl_True.ents (k:Nat):Ents TT:=⟨[fQ38.ent k,fQ45.ent k,fQ23.ent k,fQ30.ent k],[],[]⟩
theorem impl_True.chk (k:Nat) (x:TupT ST [.lst (.st 0),.int .i64,.lst (.lst (.int .i64)),.lst (.st 3)]):runU TT (calF [] (impl_True.ents k)) (jmps impl_True.us k) (finK Tryz.f29 (retK TT (.one) [.bool])) Tryz.f29 none (canon (args0 0 (argL [.one,.agg 2,.agg 1] [.lst (.st 0),.int .i64,.lst (.lst (.int .i64)),.lst (.st 3)] x)) [])=impl_True.f k x.1 x.2.1 x.2.2.1 x.2.2.2:=by kernel_rfl
theorem impl_True.ok (k:Nat):EntOk Tryz.prog TT (impl_True.ent k):=
 fun_of tbl mixed 29 Tryz.f29 Tryz.func29 rfl (by kernel_rfl) [.one,.agg 2,.agg 1] [.lst (.st 0),.int .i64,.lst (.lst (.int .i64)),.lst (.st 3)] (.one) [.bool] (by kernel_rfl) [] impl_True.ents impl_True.us True.intro True.intro (fun k (x:TupT ST [.lst (.st 0),.int .i64,.lst (.lst (.int .i64)),.lst (.st 3)])=>impl_True.f k x.1 x.2.1 x.2.2.1 x.2.2.2) impl_True.chk (fun k=>EntsOk.mk (And.intro (fQ38.ok k) (And.intro (fQ45.ok k) (And.intro (fQ23.ok k) (And.intro (fQ30.ok k) True.intro)))) True.intro True.intro) k
noncomputable def laws_big.f (l0:List (Int)):Option (Bool):=some (decide ((l0.length:Int)>1048576))
@[reducible] noncomputable def laws_big.us:List (CutU TT (TupT ST [.bool])):=[]
noncomputable def laws_big.ent:Ent TT:=⟨31,[.one],[.lst (.int .u8)],.one,[.bool],fun x=>laws_big.f x⟩
noncomputable def laws_big.ents (k:Nat):Ents TT:=⟨[],[],[]⟩
theorem laws_big.chk (k:Nat) (x:TupT ST [.lst (.int .u8)]):runU TT (calF [] (laws_big.ents k)) (jmps laws_big.us k) (finK Tryz.f31 (retK TT (.one) [.bool])) Tryz.f31 none (canon (args0 0 (argL [.one] [.lst (.int .u8)] x)) [])=laws_big.f x:=by kernel_rfl
theorem laws_big.ok:EntOk Tryz.prog TT (laws_big.ent):=
 fun_of tbl mixed 31 Tryz.f31 Tryz.func31 rfl (by kernel_rfl) [.one] [.lst (.int .u8)] (.one) [.bool] (by kernel_rfl) [] laws_big.ents laws_big.us True.intro True.intro (fun k (x:TupT ST [.lst (.int .u8)])=>laws_big.f x) laws_big.chk (fun k=>EntsOk.mk True.intro True.intro True.intro) 0
noncomputable def fQ73.f:Option ((List (I_Sym))):=some ([⟨(⟨#[116,116]⟩:ByteArray),0,false⟩,⟨(⟨#[97]⟩:ByteArray),0,false⟩,⟨(⟨#[98]⟩:ByteArray),0,false⟩,⟨(⟨#[103]⟩:ByteArray),1,false⟩,⟨(⟨#[104]⟩:ByteArray),2,false⟩,⟨(⟨#[102]⟩:ByteArray),2,true⟩,⟨(⟨#[107]⟩:ByteArray),2,true⟩]:List (I_Sym))
@[reducible] noncomputable def fQ73.us:List (CutU TT (TupT ST [.lst (.st 0)])):=[]
noncomputable def fQ73.ent:Ent TT:=⟨109,[],[],.one,[.lst (.st 0)],fun x=>fQ73.f⟩
noncomputable def fQ73.ents (k:Nat):Ents TT:=⟨[],[],[]⟩
theorem fQ73.chk (k:Nat) (x:TupT ST []):runU TT (calF [] (fQ73.ents k)) (jmps fQ73.us k) (finK Tryz.f109 (retK TT (.one) [.lst (.st 0)])) Tryz.f109 none (canon (args0 0 (argL [] [] x)) [])=fQ73.f:=by kernel_rfl
theorem fQ73.ok:EntOk Tryz.prog TT (fQ73.ent):=
 fun_of tbl mixed 109 Tryz.f109 Tryz.func109 rfl (by kernel_rfl) [] [] (.one) [.lst (.st 0)] (by kernel_rfl) [] fQ73.ents fQ73.us True.intro True.intro (fun k (x:TupT ST [])=>fQ73.f) fQ73.chk (fun k=>EntsOk.mk True.intro True.intro True.intro) 0
noncomputable def fQ39.l0:Nat→Int→Int→Int→Int→Option (Int)
 | 0,_,_,_,_=>none
 | k+1,x0,x1,x5,x6=>if x6<x1 then (fQ39.l0 k x0 x1 (wrap64 (x5*x0)) (wrap64 (x6+1))) else (some x5)
noncomputable def fQ39.f (k:Nat) (a0:Int) (a1:Int):Option (Int):=fQ39.l0 k a0 a1 1 0
noncomputable def fQ39.l0.c:Cut:=⟨[],[],[(0,.one),(1,.one),(5,.one),(6,.one)],[],[],[.int .i64,.int .i64,.int .i64,.int .i64]⟩
@[reducible] noncomputable def fQ39.us:List (CutU TT (TupT ST [.int .i64])):=[⟨3,fQ39.l0.c,fun k x=>fQ39.l0 k x.1 x.2.1 x.2.2.1 x.2.2.2⟩]
noncomputable def fQ39.ent (k:Nat):Ent TT:=⟨105,[.one,.one],[.int .i64,.int .i64],.one,[.int .i64],fun x=>fQ39.f k x.1 x.2⟩
noncomputable def fQ39.ents (k:Nat):Ents TT:=⟨[],[],[]⟩
noncomputable def fQ39.l0.raw (k:Nat) (x0:Int) (x1:Int) (x5:Int) (x6:Int):Option (Int):=if x6<x1 then (fQ39.l0 k x0 x1 (wr .i64 (x5*x0)) (wr .i64 (x6+1))) else (some x5)
theorem fQ39.l0.clean (k:Nat) (x0:Int) (x1:Int) (x5:Int) (x6:Int):fQ39.l0.raw k x0 x1 x5 x6=fQ39.l0 (k+1) x0 x1 x5 x6:=by
 rw [fQ39.l0.raw,fQ39.l0]
 simp only [wr_i64]
theorem fQ39.l0.chk (k:Nat) (x:TupT ST [.int .i64,.int .i64,.int .i64,.int .i64]):runU TT (calF [] (fQ39.ents k)) (jmps fQ39.us k) (finK Tryz.f105 (retK TT (.one) [.int .i64])) Tryz.f105 (some 3) (canonC fQ39.l0.c x)=fQ39.l0 (k+1) x.1 x.2.1 x.2.2.1 x.2.2.2:=Eq.trans (show _=fQ39.l0.raw k x.1 x.2.1 x.2.2.1 x.2.2.2 by kernel_rfl) (fQ39.l0.clean k x.1 x.2.1 x.2.2.1 x.2.2.2)
theorem fQ39.chk (k:Nat) (x:TupT ST [.int .i64,.int .i64]):runU TT (calF [] (fQ39.ents k)) (jmps fQ39.us k) (finK Tryz.f105 (retK TT (.one) [.int .i64])) Tryz.f105 none (canon (args0 0 (argL [.one,.one] [.int .i64,.int .i64] x)) [])=fQ39.f k x.1 x.2:=by kernel_rfl
theorem fQ39.ok (k:Nat):EntOk Tryz.prog TT (fQ39.ent k):=
 fun_of tbl mixed 105 Tryz.f105 Tryz.func105 rfl (by kernel_rfl) [.one,.one] [.int .i64,.int .i64] (.one) [.int .i64] (by kernel_rfl) [] fQ39.ents fQ39.us (And.intro (fun _=>rfl) True.intro) (And.intro fQ39.l0.chk True.intro) (fun k (x:TupT ST [.int .i64,.int .i64])=>fQ39.f k x.1 x.2) fQ39.chk (fun k=>EntsOk.mk True.intro True.intro True.intro) k
noncomputable def fQ89.f (a0:Int) (a1:Int):Option (Int):=if a0>a1 then (some a0) else (some a1)
@[reducible] noncomputable def fQ89.us:List (CutU TT (TupT ST [.int .i64])):=[]
noncomputable def fQ89.ent:Ent TT:=⟨150,[.one,.one],[.int .i64,.int .i64],.one,[.int .i64],fun x=>fQ89.f x.1 x.2⟩
noncomputable def fQ89.ents (k:Nat):Ents TT:=⟨[],[],[]⟩
theorem fQ89.chk (k:Nat) (x:TupT ST [.int .i64,.int .i64]):runU TT (calF [] (fQ89.ents k)) (jmps fQ89.us k) (finK Tryz.f150 (retK TT (.one) [.int .i64])) Tryz.f150 none (canon (args0 0 (argL [.one,.one] [.int .i64,.int .i64] x)) [])=fQ89.f x.1 x.2:=by kernel_rfl
theorem fQ89.ok:EntOk Tryz.prog TT (fQ89.ent):=
 fun_of tbl mixed 150 Tryz.f150 Tryz.func150 rfl (by kernel_rfl) [.one,.one] [.int .i64,.int .i64] (.one) [.int .i64] (by kernel_rfl) [] fQ89.ents fQ89.us True.intro True.intro (fun k (x:TupT ST [.int .i64,.int .i64])=>fQ89.f x.1 x.2) fQ89.chk (fun k=>EntsOk.mk True.intro True.intro True.intro) 0
noncomputable def fQ93.f (a0:Int) (a1:Int):Option (Int):=if a0<a1 then (some a0) else (some a1)
@[reducible] noncomputable def fQ93.us:List (CutU TT (TupT ST [.int .i64])):=[]
noncomputable def fQ93.ent:Ent TT:=⟨155,[.one,.one],[.int .i64,.int .i64],.one,[.int .i64],fun x=>fQ93.f x.1 x.2⟩
noncomputable def fQ93.ents (k:Nat):Ents TT:=⟨[],[],[]⟩
theorem fQ93.chk (k:Nat) (x:TupT ST [.int .i64,.int .i64]):runU TT (calF [] (fQ93.ents k)) (jmps fQ93.us k) (finK Tryz.f155 (retK TT (.one) [.int .i64])) Tryz.f155 none (canon (args0 0 (argL [.one,.one] [.int .i64,.int .i64] x)) [])=fQ93.f x.1 x.2:=by kernel_rfl
theorem fQ93.ok:EntOk Tryz.prog TT (fQ93.ent):=
 fun_of tbl mixed 155 Tryz.f155 Tryz.func155 rfl (by kernel_rfl) [.one,.one] [.int .i64,.int .i64] (.one) [.int .i64] (by kernel_rfl) [] fQ93.ents fQ93.us True.intro True.intro (fun k (x:TupT ST [.int .i64,.int .i64])=>fQ93.f x.1 x.2) fQ93.chk (fun k=>EntsOk.mk True.intro True.intro True.intro) 0
noncomputable def fQ68.l0:Nat→List (Int)→Int→Int→Option (Bool)
 | 0,_,_,_=>none
 | k+1,x0,x1,x5=>if x5<(x0.length:Int) then (if 0≤x5 then (if (rd x0 x5)=x1 then (some true) else (fQ68.l0 k x0 x1 (wrap64 (x5+1)))) else none) else (some false)
noncomputable def fQ68.f (k:Nat) (l0:List (Int)) (a1:Int):Option (Bool):=fQ68.l0 k l0 a1 0
noncomputable def fQ68.l0.c:Cut:=⟨[0],[],[(0,.one),(1,.one),(5,.one)],[],[],[.lst (.int .i64),.int .i64,.int .i64]⟩
@[reducible] noncomputable def fQ68.us:List (CutU TT (TupT ST [.bool])):=[⟨2,fQ68.l0.c,fun k x=>fQ68.l0 k x.1 x.2.1 x.2.2⟩]
noncomputable def fQ68.ent (k:Nat):Ent TT:=⟨297,[.one,.one],[.lst (.int .i64),.int .i64],.one,[.bool],fun x=>fQ68.f k x.1 x.2⟩
noncomputable def fQ68.ents (k:Nat):Ents TT:=⟨[],[],[]⟩
noncomputable def fQ68.l0.raw (k:Nat) (x0:List (Int)) (x1:Int) (x5:Int):Option (Bool):=if x5<(x0.length:Int) then (if 0≤x5 then (if x5<(x0.length:Int) then (if (rd x0 x5)=x1 then (some true) else (fQ68.l0 k x0 x1 (wr .i64 (x5+1)))) else none) else none) else (some false)
theorem fQ68.l0.clean (k:Nat) (x0:List (Int)) (x1:Int) (x5:Int):fQ68.l0.raw k x0 x1 x5=fQ68.l0 (k+1) x0 x1 x5:=by
 rw [fQ68.l0.raw,fQ68.l0]
 simp only [wr_i64]
 exact ite_congr rfl (fun h0=>ite_congr rfl (fun h1=>if_pos h0) (fun h1=>rfl)) (fun h0=>rfl)
theorem fQ68.l0.chk (k:Nat) (x:TupT ST [.lst (.int .i64),.int .i64,.int .i64]):runU TT (calF [] (fQ68.ents k)) (jmps fQ68.us k) (finK Tryz.f297 (retK TT (.one) [.bool])) Tryz.f297 (some 2) (canonC fQ68.l0.c x)=fQ68.l0 (k+1) x.1 x.2.1 x.2.2:=Eq.trans (show _=fQ68.l0.raw k x.1 x.2.1 x.2.2 by kernel_rfl) (fQ68.l0.clean k x.1 x.2.1 x.2.2)
theorem fQ68.chk (k:Nat) (x:TupT ST [.lst (.int .i64),.int .i64]):runU TT (calF [] (fQ68.ents k)) (jmps fQ68.us k) (finK Tryz.f297 (retK TT (.one) [.bool])) Tryz.f297 none (canon (args0 0 (argL [.one,.one] [.lst (.int .i64),.int .i64] x)) [])=fQ68.f k x.1 x.2:=by kernel_rfl
theorem fQ68.ok (k:Nat):EntOk Tryz.prog TT (fQ68.ent k):=
 fun_of tbl mixed 297 Tryz.f297 Tryz.func297 rfl (by kernel_rfl) [.one,.one] [.lst (.int .i64),.int .i64] (.one) [.bool] (by kernel_rfl) [] fQ68.ents fQ68.us (And.intro (fun _=>rfl) True.intro) (And.intro fQ68.l0.chk True.intro) (fun k (x:TupT ST [.lst (.int .i64),.int .i64])=>fQ68.f k x.1 x.2) fQ68.chk (fun k=>EntsOk.mk True.intro True.intro True.intro) k
noncomputable def fQ61.l0:Nat→List (Int)→Int→Int→Option ((List (Int)))
 | 0,_,_,_=>none
 | k+1,x0,x1,x5=>if x5<(x0.length:Int) then (if 0≤x5 then (if (rd x0 x5)<x1 then (fQ61.l0 k x0 x1 (wrap64 (x5+1))) else (if x5≤(x0.length:Int) then (if ([]:List (Int)).length+(x0.take (x5:Int).toNat).length≤1599289640401 then (if (([]:List (Int))++(x0.take (x5:Int).toNat)).length+([x1]:List (Int)).length≤1599289640401 then (if ((([]:List (Int))++(x0.take (x5:Int).toNat))++([x1]:List (Int))).length+(x0.drop (x5:Int).toNat).length≤1599289640401 then (some (((([]:List (Int))++(x0.take (x5:Int).toNat))++([x1]:List (Int)))++(x0.drop (x5:Int).toNat))) else none) else none) else none) else none)) else none) else (if 0≤x5 then (if x5≤(x0.length:Int) then (if ([]:List (Int)).length+(x0.take (x5:Int).toNat).length≤1599289640401 then (if (([]:List (Int))++(x0.take (x5:Int).toNat)).length+([x1]:List (Int)).length≤1599289640401 then (if ((([]:List (Int))++(x0.take (x5:Int).toNat))++([x1]:List (Int))).length+(x0.drop (x5:Int).toNat).length≤1599289640401 then (some (((([]:List (Int))++(x0.take (x5:Int).toNat))++([x1]:List (Int)))++(x0.drop (x5:Int).toNat))) else none) else none) else none) else none) else none)
noncomputable def fQ61.f (k:Nat) (l0:List (Int)) (a1:Int):Option ((List (Int))):=(fQ68.f k l0 a1).bind fun t1=>(if t1=true then (if ([]:List (Int)).length+l0.length≤1599289640401 then (some (([]:List (Int))++l0)) else none) else (fQ61.l0 k l0 a1 0))
noncomputable def fQ61.l0.c:Cut:=⟨[0],[],[(0,.one),(1,.one),(5,.one)],[],[],[.lst (.int .i64),.int .i64,.int .i64]⟩
@[reducible] noncomputable def fQ61.us:List (CutU TT (TupT ST [.lst (.int .i64)])):=[⟨4,fQ61.l0.c,fun k x=>fQ61.l0 k x.1 x.2.1 x.2.2⟩]
noncomputable def fQ61.ent (k:Nat):Ent TT:=⟨278,[.one,.one],[.lst (.int .i64),.int .i64],.one,[.lst (.int .i64)],fun x=>fQ61.f k x.1 x.2⟩
noncomputable def fQ61.ents (k:Nat):Ents TT:=⟨[fQ68.ent k],[],[]⟩
noncomputable def fQ61.l0.raw (k:Nat) (x0:List (Int)) (x1:Int) (x5:Int):Option ((List (Int))):=if x5<(x0.length:Int) then (if 0≤x5 then (if x5<(x0.length:Int) then (if (rd x0 x5)<x1 then (fQ61.l0 k x0 x1 (wr .i64 (x5+1))) else (if 0≤x5 then (if x5≤(x0.length:Int) then (if ([]:List (Int)).length+(x0.take (x5:Int).toNat).length≤1599289640401 then (if (([]:List (Int))++(x0.take (x5:Int).toNat)).length+([x1]:List (Int)).length≤1599289640401 then (if 0≤x5 then (if x5≤(x0.length:Int) then (if ((([]:List (Int))++(x0.take (x5:Int).toNat))++([x1]:List (Int))).length+(x0.drop (x5:Int).toNat).length≤1599289640401 then (some (((([]:List (Int))++(x0.take (x5:Int).toNat))++([x1]:List (Int)))++(x0.drop (x5:Int).toNat))) else none) else none) else none) else none) else none) else none) else none)) else none) else none) else (if 0≤x5 then (if x5≤(x0.length:Int) then (if ([]:List (Int)).length+(x0.take (x5:Int).toNat).length≤1599289640401 then (if (([]:List (Int))++(x0.take (x5:Int).toNat)).length+([x1]:List (Int)).length≤1599289640401 then (if 0≤x5 then (if x5≤(x0.length:Int) then (if ((([]:List (Int))++(x0.take (x5:Int).toNat))++([x1]:List (Int))).length+(x0.drop (x5:Int).toNat).length≤1599289640401 then (some (((([]:List (Int))++(x0.take (x5:Int).toNat))++([x1]:List (Int)))++(x0.drop (x5:Int).toNat))) else none) else none) else none) else none) else none) else none) else none)
theorem fQ61.l0.clean (k:Nat) (x0:List (Int)) (x1:Int) (x5:Int):fQ61.l0.raw k x0 x1 x5=fQ61.l0 (k+1) x0 x1 x5:=by
 rw [fQ61.l0.raw,fQ61.l0]
 simp only [wr_i64]
 exact ite_congr rfl (fun h0=>ite_congr rfl (fun h1=>Eq.trans (if_pos h0) (ite_congr rfl (fun h2=>rfl) (fun h2=>Eq.trans (if_pos h1) (ite_congr rfl (fun h3=>ite_congr rfl (fun h4=>ite_congr rfl (fun h5=>Eq.trans (if_pos h1) (if_pos h3)) (fun h5=>rfl)) (fun h4=>rfl)) (fun h3=>rfl))))) (fun h1=>rfl)) (fun h0=>ite_congr rfl (fun h1=>ite_congr rfl (fun h2=>ite_congr rfl (fun h3=>ite_congr rfl (fun h4=>Eq.trans (if_pos h1) (if_pos h2)) (fun h4=>rfl)) (fun h3=>rfl)) (fun h2=>rfl)) (fun h1=>rfl))
theorem fQ61.l0.chk (k:Nat) (x:TupT ST [.lst (.int .i64),.int .i64,.int .i64]):runU TT (calF [] (fQ61.ents k)) (jmps fQ61.us k) (finK Tryz.f278 (retK TT (.one) [.lst (.int .i64)])) Tryz.f278 (some 4) (canonC fQ61.l0.c x)=fQ61.l0 (k+1) x.1 x.2.1 x.2.2:=Eq.trans (show _=fQ61.l0.raw k x.1 x.2.1 x.2.2 by kernel_rfl) (fQ61.l0.clean k x.1 x.2.1 x.2.2)
theorem fQ61.chk (k:Nat) (x:TupT ST [.lst (.int .i64),.int .i64]):runU TT (calF [] (fQ61.ents k)) (jmps fQ61.us k) (finK Tryz.f278 (retK TT (.one) [.lst (.int .i64)])) Tryz.f278 none (canon (args0 0 (argL [.one,.one] [.lst (.int .i64),.int .i64] x)) [])=fQ61.f k x.1 x.2:=by kernel_rfl
theorem fQ61.ok (k:Nat):EntOk Tryz.prog TT (fQ61.ent k):=
 fun_of tbl mixed 278 Tryz.f278 Tryz.func278 rfl (by kernel_rfl) [.one,.one] [.lst (.int .i64),.int .i64] (.one) [.lst (.int .i64)] (by kernel_rfl) [] fQ61.ents fQ61.us (And.intro (fun _=>rfl) True.intro) (And.intro fQ61.l0.chk True.intro) (fun k (x:TupT ST [.lst (.int .i64),.int .i64])=>fQ61.f k x.1 x.2) fQ61.chk (fun k=>EntsOk.mk (And.intro (fQ68.ok k) True.intro) True.intro True.intro) k
mutual
noncomputable def fQ52.l0:Nat→List (Int)→Int→Int→Int→List (I_Term)→Option ((List (Int)))
 | 0,_,_,_,_,_=>none
 | k+1,x1,x5,b2_0,b2_1,b2_2=>if x5<(b2_2.length:Int) then (if 0≤x5 then ((fQ52.f k ((rd_I_Term b2_2 x5).f0) ((rd_I_Term b2_2 x5).f1) ((rd_I_Term b2_2 x5).f2) x1).bind fun t2=>(fQ52.l0 k t2 (wrap64 (x5+1)) b2_0 b2_1 b2_2)) else none) else (some x1)
noncomputable def fQ52.f:Nat→Int→Int→List (I_Term)→List (Int)→Option ((List (Int)))
 | 0,_,_,_,_=>none
 | k+1,a0_0,a0_1,l0_2,l1=>if a0_0=(-1) then ((fQ61.f k l1 a0_1).bind fun t1=>(fQ52.l0 k t1 0 a0_0 a0_1 l0_2)) else (fQ52.l0 k l1 0 a0_0 a0_1 l0_2)
end
noncomputable def fQ52.ent (k:Nat):Ent TT:=⟨220,[.agg 3,.one],[.int .i64,.int .i64,.lst (.st 1),.lst (.int .i64)],.one,[.lst (.int .i64)],fun x=>fQ52.f k x.1 x.2.1 x.2.2.1 x.2.2.2⟩
noncomputable def fQ52.l0.c:Cut:=⟨[1],[(2,2)],[(1,.one),(2,.ptr 2 0),(5,.one)],[(2,[.one,.one,.one])],[],[.lst (.int .i64),.int .i64,.int .i64,.int .i64,.lst (.st 1)]⟩
@[reducible] noncomputable def fQ52.us:List (CutU TT (TupT ST [.lst (.int .i64)])):=[⟨4,fQ52.l0.c,fun k x=>fQ52.l0 k x.1 x.2.1 x.2.2.1 x.2.2.2.1 x.2.2.2.2⟩]
noncomputable def fQ52.ents (k:Nat):Ents TT:=⟨[fQ61.ent k,fQ52.ent k],[],[]⟩
noncomputable def fQ52.l0.raw (k:Nat) (x1:List (Int)) (x5:Int) (b2_0:Int) (b2_1:Int) (b2_2:List (I_Term)):Option ((List (Int))):=if x5<(b2_2.length:Int) then (if 0≤x5 then (if x5<(b2_2.length:Int) then ((fQ52.f k ((rd_I_Term b2_2 x5).f0) ((rd_I_Term b2_2 x5).f1) ((rd_I_Term b2_2 x5).f2) x1).bind fun t2=>(fQ52.l0 k t2 (wr .i64 (x5+1)) b2_0 b2_1 b2_2)) else none) else none) else (some x1)
theorem fQ52.l0.clean (k:Nat) (x1:List (Int)) (x5:Int) (b2_0:Int) (b2_1:Int) (b2_2:List (I_Term)):fQ52.l0.raw k x1 x5 b2_0 b2_1 b2_2=fQ52.l0 (k+1) x1 x5 b2_0 b2_1 b2_2:=by
 rw [fQ52.l0.raw,fQ52.l0]
 simp only [wr_i64]
 exact ite_congr rfl (fun h0=>ite_congr rfl (fun h1=>if_pos h0) (fun h1=>rfl)) (fun h0=>rfl)
theorem fQ52.l0.chk (k:Nat) (x:TupT ST [.lst (.int .i64),.int .i64,.int .i64,.int .i64,.lst (.st 1)]):runU TT (calF [] (fQ52.ents k)) (jmps fQ52.us k) (finK Tryz.f220 (retK TT (.one) [.lst (.int .i64)])) Tryz.f220 (some 4) (canonC fQ52.l0.c x)=fQ52.l0 (k+1) x.1 x.2.1 x.2.2.1 x.2.2.2.1 x.2.2.2.2:=Eq.trans (show _=fQ52.l0.raw k x.1 x.2.1 x.2.2.1 x.2.2.2.1 x.2.2.2.2 by kernel_rfl) (fQ52.l0.clean k x.1 x.2.1 x.2.2.1 x.2.2.2.1 x.2.2.2.2)
theorem fQ52.chk (k:Nat) (x:TupT ST [.int .i64,.int .i64,.lst (.st 1),.lst (.int .i64)]):runU TT (calF [] (fQ52.ents k)) (jmps fQ52.us k) (finK Tryz.f220 (retK TT (.one) [.lst (.int .i64)])) Tryz.f220 none (canon (args0 0 (argL [.agg 3,.one] [.int .i64,.int .i64,.lst (.st 1),.lst (.int .i64)] x)) [])=fQ52.f (k+1) x.1 x.2.1 x.2.2.1 x.2.2.2:=by kernel_rfl
theorem fQ52.grp:∀k:Nat,EachU (EntOk Tryz.prog TT) [fQ52.ent k]∧EachU (Ent2Ok Tryz.prog TT) []:=by
 intro k
 induction k using Nat.strongRecOn with
 | ind k ih=>
  exact And.intro (And.intro (fun_in tbl mixed 220 Tryz.f220 Tryz.func220 rfl (by kernel_rfl) [.agg 3,.one] [.int .i64,.int .i64,.lst (.st 1),.lst (.int .i64)] (.one) [.lst (.int .i64)] (by kernel_rfl) [] fQ52.ents fQ52.us (And.intro (fun _=>rfl) True.intro) (And.intro fQ52.l0.chk True.intro) (fun k (x:TupT ST [.int .i64,.int .i64,.lst (.st 1),.lst (.int .i64)])=>fQ52.f k x.1 x.2.1 x.2.2.1 x.2.2.2) (fun _=>rfl) fQ52.chk k (fun j h=>EntsOk.mk (And.intro (fQ61.ok j) (And.intro (ih j h).1.1 True.intro)) True.intro True.intro)) True.intro) True.intro
theorem fQ52.ok (k:Nat):EntOk Tryz.prog TT (fQ52.ent k):=(fQ52.grp k).1.1
noncomputable def fQ44.l0:Nat→List (Int)→Int→List (I_Lit)→Option ((List (Int)))
 | 0,_,_,_=>none
 | k+1,x3,x4,b1_0=>if x4<(b1_0.length:Int) then (if 0≤x4 then ((fQ52.f k ((rd_I_Lit b1_0 x4).f1.f0) ((rd_I_Lit b1_0 x4).f1.f1) ((rd_I_Lit b1_0 x4).f1.f2) x3).bind fun t1=>((fQ52.f k ((rd_I_Lit b1_0 x4).f2.f0) ((rd_I_Lit b1_0 x4).f2.f1) ((rd_I_Lit b1_0 x4).f2.f2) t1).bind fun t2=>(fQ44.l0 k t2 (wrap64 (x4+1)) b1_0))) else none) else (some x3)
noncomputable def fQ44.f (k:Nat) (l0_0:List (I_Lit)):Option ((List (Int))):=fQ44.l0 k ([]:List (Int)) 0 l0_0
noncomputable def fQ44.l0.c:Cut:=⟨[3],[(1,0)],[(1,.ptr 1 0),(3,.one),(4,.one)],[(1,[.one])],[],[.lst (.int .i64),.int .i64,.lst (.st 3)]⟩
@[reducible] noncomputable def fQ44.us:List (CutU TT (TupT ST [.lst (.int .i64)])):=[⟨3,fQ44.l0.c,fun k x=>fQ44.l0 k x.1 x.2.1 x.2.2⟩]
noncomputable def fQ44.ent (k:Nat):Ent TT:=⟨95,[.agg 1],[.lst (.st 3)],.one,[.lst (.int .i64)],fun x=>fQ44.f k x⟩
noncomputable def fQ44.ents (k:Nat):Ents TT:=⟨[fQ52.ent k],[],[]⟩
noncomputable def fQ44.l0.raw (k:Nat) (x3:List (Int)) (x4:Int) (b1_0:List (I_Lit)):Option ((List (Int))):=if x4<(b1_0.length:Int) then (if 0≤x4 then (if x4<(b1_0.length:Int) then (if 0≤x4 then (if x4<(b1_0.length:Int) then ((fQ52.f k ((rd_I_Lit b1_0 x4).f1.f0) ((rd_I_Lit b1_0 x4).f1.f1) ((rd_I_Lit b1_0 x4).f1.f2) x3).bind fun t1=>((fQ52.f k ((rd_I_Lit b1_0 x4).f2.f0) ((rd_I_Lit b1_0 x4).f2.f1) ((rd_I_Lit b1_0 x4).f2.f2) t1).bind fun t2=>(fQ44.l0 k t2 (wr .i64 (x4+1)) b1_0))) else none) else none) else none) else none) else (some x3)
theorem fQ44.l0.clean (k:Nat) (x3:List (Int)) (x4:Int) (b1_0:List (I_Lit)):fQ44.l0.raw k x3 x4 b1_0=fQ44.l0 (k+1) x3 x4 b1_0:=by
 rw [fQ44.l0.raw,fQ44.l0]
 simp only [wr_i64]
 exact ite_congr rfl (fun h0=>ite_congr rfl (fun h1=>Eq.trans (if_pos h0) (Eq.trans (if_pos h1) (if_pos h0))) (fun h1=>rfl)) (fun h0=>rfl)
theorem fQ44.l0.chk (k:Nat) (x:TupT ST [.lst (.int .i64),.int .i64,.lst (.st 3)]):runU TT (calF [] (fQ44.ents k)) (jmps fQ44.us k) (finK Tryz.f95 (retK TT (.one) [.lst (.int .i64)])) Tryz.f95 (some 3) (canonC fQ44.l0.c x)=fQ44.l0 (k+1) x.1 x.2.1 x.2.2:=Eq.trans (show _=fQ44.l0.raw k x.1 x.2.1 x.2.2 by kernel_rfl) (fQ44.l0.clean k x.1 x.2.1 x.2.2)
theorem fQ44.chk (k:Nat) (x:TupT ST [.lst (.st 3)]):runU TT (calF [] (fQ44.ents k)) (jmps fQ44.us k) (finK Tryz.f95 (retK TT (.one) [.lst (.int .i64)])) Tryz.f95 none (canon (args0 0 (argL [.agg 1] [.lst (.st 3)] x)) [])=fQ44.f k x:=by kernel_rfl
theorem fQ44.ok (k:Nat):EntOk Tryz.prog TT (fQ44.ent k):=
 fun_of tbl mixed 95 Tryz.f95 Tryz.func95 rfl (by kernel_rfl) [.agg 1] [.lst (.st 3)] (.one) [.lst (.int .i64)] (by kernel_rfl) [] fQ44.ents fQ44.us (And.intro (fun _=>rfl) True.intro) (And.intro fQ44.l0.chk True.intro) (fun k (x:TupT ST [.lst (.st 3)])=>fQ44.f k x) fQ44.chk (fun k=>EntsOk.mk (And.intro (fQ52.ok k) True.intro) True.intro True.intro) k
mutual
noncomputable def fQ18.l0:Nat→List (Int)→Int→Int→Int→List (I_Term)→Int→Int→Int→Int→Option (Int×Int×(List (I_Term)))
 | 0,_,_,_,_,_,_,_,_,_=>none
 | k+1,x1,x6,b2_0,b2_1,b2_2,b4_0,b4_1,b5_0,b5_1=>if x6<(x1.length:Int) then (if 0≤x6 then (if (rd x1 x6)=b2_1 then (fQ18.l1 k x1 0 b2_0 b2_1 b2_2 b4_0 b4_1 b5_0 x6 []) else (fQ18.l0 k x1 (wrap64 (x6+1)) b2_0 b2_1 b2_2 b4_0 b4_1 b5_0 b5_1)) else none) else (fQ18.l1 k x1 0 b2_0 b2_1 b2_2 b4_0 b4_1 b5_0 x6 [])
noncomputable def fQ18.l1:Nat→List (Int)→Int→Int→Int→List (I_Term)→Int→Int→Int→Int→List (I_Term)→Option (Int×Int×(List (I_Term)))
 | 0,_,_,_,_,_,_,_,_,_,_=>none
 | k+1,x1,x7,b2_0,b2_1,b2_2,b4_0,b4_1,b5_0,b5_1,b5_2=>if x7<(b2_2.length:Int) then (if 0≤x7 then ((fQ18.f k ((rd_I_Term b2_2 x7).f0) ((rd_I_Term b2_2 x7).f1) ((rd_I_Term b2_2 x7).f2) x1).bind fun t1=>(if b5_2.length+([⟨t1.1,t1.2.1,t1.2.2⟩]:List (I_Term)).length≤1599289640401 then (fQ18.l1 k x1 (wrap64 (x7+1)) b2_0 b2_1 b2_2 b4_0 b4_1 b5_0 b5_1 (b5_2++([⟨t1.1,t1.2.1,t1.2.2⟩]:List (I_Term)))) else none)) else none) else (some (b5_0,b5_1,b5_2))
noncomputable def fQ18.f:Nat→Int→Int→List (I_Term)→List (Int)→Option (Int×Int×(List (I_Term)))
 | 0,_,_,_,_=>none
 | k+1,a0_0,a0_1,l0_2,l1=>if a0_0=(-1) then (fQ18.l0 k l1 0 a0_0 a0_1 l0_2 0 0 a0_0 a0_1) else (fQ18.l1 k l1 0 a0_0 a0_1 l0_2 0 0 a0_0 a0_1 [])
end
noncomputable def fQ18.ent (k:Nat):Ent TT:=⟨172,[.agg 3,.one],[.int .i64,.int .i64,.lst (.st 1),.lst (.int .i64)],.agg 3,[.int .i64,.int .i64,.lst (.st 1)],fun x=>fQ18.f k x.1 x.2.1 x.2.2.1 x.2.2.2⟩
noncomputable def fQ18.l0.c:Cut:=⟨[1],[(2,2)],[(1,.one),(2,.ptr 2 0),(4,.ptr 4 0),(5,.ptr 5 0),(6,.one)],[(2,[.one,.one,.one]),(4,[.one,.one,.nil]),(5,[.one,.one,.nil])],[],[.lst (.int .i64),.int .i64,.int .i64,.int .i64,.lst (.st 1),.int .i64,.int .i64,.int .i64,.int .i64]⟩
noncomputable def fQ18.l1.c:Cut:=⟨[1],[(2,2)],[(1,.one),(2,.ptr 2 0),(4,.ptr 4 0),(5,.ptr 5 0),(7,.one)],[(2,[.one,.one,.one]),(4,[.one,.one,.nil]),(5,[.one,.one,.own 50])],[(50,.st 1)],[.lst (.int .i64),.int .i64,.int .i64,.int .i64,.lst (.st 1),.int .i64,.int .i64,.int .i64,.int .i64,.lst (.st 1)]⟩
@[reducible] noncomputable def fQ18.us:List (CutU TT (TupT ST [.int .i64,.int .i64,.lst (.st 1)])):=[⟨4,fQ18.l0.c,fun k x=>fQ18.l0 k x.1 x.2.1 x.2.2.1 x.2.2.2.1 x.2.2.2.2.1 x.2.2.2.2.2.1 x.2.2.2.2.2.2.1 x.2.2.2.2.2.2.2.1 x.2.2.2.2.2.2.2.2⟩,⟨8,fQ18.l1.c,fun k x=>fQ18.l1 k x.1 x.2.1 x.2.2.1 x.2.2.2.1 x.2.2.2.2.1 x.2.2.2.2.2.1 x.2.2.2.2.2.2.1 x.2.2.2.2.2.2.2.1 x.2.2.2.2.2.2.2.2.1 x.2.2.2.2.2.2.2.2.2⟩]
noncomputable def fQ18.ents (k:Nat):Ents TT:=⟨[fQ18.ent k],[],[]⟩
noncomputable def fQ18.l0.raw (k:Nat) (x1:List (Int)) (x6:Int) (b2_0:Int) (b2_1:Int) (b2_2:List (I_Term)) (b4_0:Int) (b4_1:Int) (b5_0:Int) (b5_1:Int):Option (Int×Int×(List (I_Term))):=if x6<(x1.length:Int) then (if 0≤x6 then (if x6<(x1.length:Int) then (if ¬(rd x1 x6)=b2_1 then (fQ18.l0 k x1 (wr .i64 (x6+1)) b2_0 b2_1 b2_2 b4_0 b4_1 b5_0 b5_1) else (fQ18.l1 k x1 0 b2_0 b2_1 b2_2 b4_0 b4_1 b5_0 x6 [])) else none) else none) else (fQ18.l1 k x1 0 b2_0 b2_1 b2_2 b4_0 b4_1 b5_0 x6 [])
theorem fQ18.l0.clean (k:Nat) (x1:List (Int)) (x6:Int) (b2_0:Int) (b2_1:Int) (b2_2:List (I_Term)) (b4_0:Int) (b4_1:Int) (b5_0:Int) (b5_1:Int):fQ18.l0.raw k x1 x6 b2_0 b2_1 b2_2 b4_0 b4_1 b5_0 b5_1=fQ18.l0 (k+1) x1 x6 b2_0 b2_1 b2_2 b4_0 b4_1 b5_0 b5_1:=by
 rw [fQ18.l0.raw,fQ18.l0]
 simp only [wr_i64]
 exact ite_congr rfl (fun h0=>ite_congr rfl (fun h1=>Eq.trans (if_pos h0) (ite_ng _ _)) (fun h1=>rfl)) (fun h0=>rfl)
theorem fQ18.l0.chk (k:Nat) (x:TupT ST [.lst (.int .i64),.int .i64,.int .i64,.int .i64,.lst (.st 1),.int .i64,.int .i64,.int .i64,.int .i64]):runU TT (calF [] (fQ18.ents k)) (jmps fQ18.us k) (finK Tryz.f172 (retK TT (.agg 3) [.int .i64,.int .i64,.lst (.st 1)])) Tryz.f172 (some 4) (canonC fQ18.l0.c x)=fQ18.l0 (k+1) x.1 x.2.1 x.2.2.1 x.2.2.2.1 x.2.2.2.2.1 x.2.2.2.2.2.1 x.2.2.2.2.2.2.1 x.2.2.2.2.2.2.2.1 x.2.2.2.2.2.2.2.2:=Eq.trans (show _=fQ18.l0.raw k x.1 x.2.1 x.2.2.1 x.2.2.2.1 x.2.2.2.2.1 x.2.2.2.2.2.1 x.2.2.2.2.2.2.1 x.2.2.2.2.2.2.2.1 x.2.2.2.2.2.2.2.2 by kernel_rfl) (fQ18.l0.clean k x.1 x.2.1 x.2.2.1 x.2.2.2.1 x.2.2.2.2.1 x.2.2.2.2.2.1 x.2.2.2.2.2.2.1 x.2.2.2.2.2.2.2.1 x.2.2.2.2.2.2.2.2)
noncomputable def fQ18.l1.raw (k:Nat) (x1:List (Int)) (x7:Int) (b2_0:Int) (b2_1:Int) (b2_2:List (I_Term)) (b4_0:Int) (b4_1:Int) (b5_0:Int) (b5_1:Int) (b5_2:List (I_Term)):Option (Int×Int×(List (I_Term))):=if x7<(b2_2.length:Int) then (if 0≤x7 then (if x7<(b2_2.length:Int) then ((fQ18.f k ((rd_I_Term b2_2 x7).f0) ((rd_I_Term b2_2 x7).f1) ((rd_I_Term b2_2 x7).f2) x1).bind fun t1=>(if b5_2.length+([⟨t1.1,t1.2.1,t1.2.2⟩]:List (I_Term)).length≤1599289640401 then (fQ18.l1 k x1 (wr .i64 (x7+1)) b2_0 b2_1 b2_2 b4_0 b4_1 b5_0 b5_1 (b5_2++([⟨t1.1,t1.2.1,t1.2.2⟩]:List (I_Term)))) else none)) else none) else none) else (some (b5_0,b5_1,b5_2))
theorem fQ18.l1.clean (k:Nat) (x1:List (Int)) (x7:Int) (b2_0:Int) (b2_1:Int) (b2_2:List (I_Term)) (b4_0:Int) (b4_1:Int) (b5_0:Int) (b5_1:Int) (b5_2:List (I_Term)):fQ18.l1.raw k x1 x7 b2_0 b2_1 b2_2 b4_0 b4_1 b5_0 b5_1 b5_2=fQ18.l1 (k+1) x1 x7 b2_0 b2_1 b2_2 b4_0 b4_1 b5_0 b5_1 b5_2:=by
 rw [fQ18.l1.raw,fQ18.l1]
 simp only [wr_i64]
 exact ite_congr rfl (fun h0=>ite_congr rfl (fun h1=>if_pos h0) (fun h1=>rfl)) (fun h0=>rfl)
theorem fQ18.l1.chk (k:Nat) (x:TupT ST [.lst (.int .i64),.int .i64,.int .i64,.int .i64,.lst (.st 1),.int .i64,.int .i64,.int .i64,.int .i64,.lst (.st 1)]):runU TT (calF [] (fQ18.ents k)) (jmps fQ18.us k) (finK Tryz.f172 (retK TT (.agg 3) [.int .i64,.int .i64,.lst (.st 1)])) Tryz.f172 (some 8) (canonC fQ18.l1.c x)=fQ18.l1 (k+1) x.1 x.2.1 x.2.2.1 x.2.2.2.1 x.2.2.2.2.1 x.2.2.2.2.2.1 x.2.2.2.2.2.2.1 x.2.2.2.2.2.2.2.1 x.2.2.2.2.2.2.2.2.1 x.2.2.2.2.2.2.2.2.2:=Eq.trans (show _=fQ18.l1.raw k x.1 x.2.1 x.2.2.1 x.2.2.2.1 x.2.2.2.2.1 x.2.2.2.2.2.1 x.2.2.2.2.2.2.1 x.2.2.2.2.2.2.2.1 x.2.2.2.2.2.2.2.2.1 x.2.2.2.2.2.2.2.2.2 by kernel_rfl) (fQ18.l1.clean k x.1 x.2.1 x.2.2.1 x.2.2.2.1 x.2.2.2.2.1 x.2.2.2.2.2.1 x.2.2.2.2.2.2.1 x.2.2.2.2.2.2.2.1 x.2.2.2.2.2.2.2.2.1 x.2.2.2.2.2.2.2.2.2)
theorem fQ18.chk (k:Nat) (x:TupT ST [.int .i64,.int .i64,.lst (.st 1),.lst (.int .i64)]):runU TT (calF [] (fQ18.ents k)) (jmps fQ18.us k) (finK Tryz.f172 (retK TT (.agg 3) [.int .i64,.int .i64,.lst (.st 1)])) Tryz.f172 none (canon (args0 0 (argL [.agg 3,.one] [.int .i64,.int .i64,.lst (.st 1),.lst (.int .i64)] x)) [])=fQ18.f (k+1) x.1 x.2.1 x.2.2.1 x.2.2.2:=by kernel_rfl
theorem fQ18.grp:∀k:Nat,EachU (EntOk Tryz.prog TT) [fQ18.ent k]∧EachU (Ent2Ok Tryz.prog TT) []:=by
 intro k
 induction k using Nat.strongRecOn with
 | ind k ih=>
  exact And.intro (And.intro (fun_in tbl mixed 172 Tryz.f172 Tryz.func172 rfl (by kernel_rfl) [.agg 3,.one] [.int .i64,.int .i64,.lst (.st 1),.lst (.int .i64)] (.agg 3) [.int .i64,.int .i64,.lst (.st 1)] (by kernel_rfl) [] fQ18.ents fQ18.us (And.intro (fun _=>rfl) (And.intro (fun _=>rfl) True.intro)) (And.intro fQ18.l0.chk (And.intro fQ18.l1.chk True.intro)) (fun k (x:TupT ST [.int .i64,.int .i64,.lst (.st 1),.lst (.int .i64)])=>fQ18.f k x.1 x.2.1 x.2.2.1 x.2.2.2) (fun _=>rfl) fQ18.chk k (fun j h=>EntsOk.mk (And.intro (ih j h).1.1 True.intro) True.intro True.intro)) True.intro) True.intro
theorem fQ18.ok (k:Nat):EntOk Tryz.prog TT (fQ18.ent k):=(fQ18.grp k).1.1
mutual
noncomputable def fQ27.l0:Nat→Int→Int→Int→List (I_Term)→Int→Int→List (I_Term)→Option (Bool)
 | 0,_,_,_,_,_,_,_=>none
 | k+1,x5,b2_0,b2_1,b2_2,b3_0,b3_1,b3_2=>if x5<(b2_2.length:Int) then (if 0≤x5 then (if x5<(b3_2.length:Int) then ((fQ27.f k ((rd_I_Term b2_2 x5).f0) ((rd_I_Term b2_2 x5).f1) ((rd_I_Term b2_2 x5).f2) ((rd_I_Term b3_2 x5).f0) ((rd_I_Term b3_2 x5).f1) ((rd_I_Term b3_2 x5).f2)).bind fun t1=>(if t1=true then (fQ27.l0 k (wrap64 (x5+1)) b2_0 b2_1 b2_2 b3_0 b3_1 b3_2) else (some false))) else none) else none) else (some true)
noncomputable def fQ27.f:Nat→Int→Int→List (I_Term)→Int→Int→List (I_Term)→Option (Bool)
 | 0,_,_,_,_,_,_=>none
 | k+1,a0_0,a0_1,l0_2,a1_0,a1_1,l1_2=>if a0_0=a1_0 then (if a0_1=a1_1 then (if (l0_2.length:Int)=(l1_2.length:Int) then (fQ27.l0 k 0 a0_0 a0_1 l0_2 a1_0 a1_1 l1_2) else (some false)) else (some false)) else (some false)
end
noncomputable def fQ27.ent (k:Nat):Ent TT:=⟨167,[.agg 3,.agg 3],[.int .i64,.int .i64,.lst (.st 1),.int .i64,.int .i64,.lst (.st 1)],.one,[.bool],fun x=>fQ27.f k x.1 x.2.1 x.2.2.1 x.2.2.2.1 x.2.2.2.2.1 x.2.2.2.2.2⟩
noncomputable def fQ27.l0.c:Cut:=⟨[],[(2,2),(3,2)],[(2,.ptr 2 0),(3,.ptr 3 0),(5,.one)],[(2,[.one,.one,.one]),(3,[.one,.one,.one])],[],[.int .i64,.int .i64,.int .i64,.lst (.st 1),.int .i64,.int .i64,.lst (.st 1)]⟩
@[reducible] noncomputable def fQ27.us:List (CutU TT (TupT ST [.bool])):=[⟨4,fQ27.l0.c,fun k x=>fQ27.l0 k x.1 x.2.1 x.2.2.1 x.2.2.2.1 x.2.2.2.2.1 x.2.2.2.2.2.1 x.2.2.2.2.2.2⟩]
noncomputable def fQ27.ents (k:Nat):Ents TT:=⟨[fQ27.ent k],[],[]⟩
noncomputable def fQ27.l0.raw (k:Nat) (x5:Int) (b2_0:Int) (b2_1:Int) (b2_2:List (I_Term)) (b3_0:Int) (b3_1:Int) (b3_2:List (I_Term)):Option (Bool):=if x5<(b2_2.length:Int) then (if 0≤x5 then (if x5<(b2_2.length:Int) then (if 0≤x5 then (if x5<(b3_2.length:Int) then ((fQ27.f k ((rd_I_Term b2_2 x5).f0) ((rd_I_Term b2_2 x5).f1) ((rd_I_Term b2_2 x5).f2) ((rd_I_Term b3_2 x5).f0) ((rd_I_Term b3_2 x5).f1) ((rd_I_Term b3_2 x5).f2)).bind fun t1=>(if (!t1)=true then (some false) else (fQ27.l0 k (wr .i64 (x5+1)) b2_0 b2_1 b2_2 b3_0 b3_1 b3_2))) else none) else none) else none) else none) else (some true)
theorem fQ27.l0.clean (k:Nat) (x5:Int) (b2_0:Int) (b2_1:Int) (b2_2:List (I_Term)) (b3_0:Int) (b3_1:Int) (b3_2:List (I_Term)):fQ27.l0.raw k x5 b2_0 b2_1 b2_2 b3_0 b3_1 b3_2=fQ27.l0 (k+1) x5 b2_0 b2_1 b2_2 b3_0 b3_1 b3_2:=by
 rw [fQ27.l0.raw,fQ27.l0]
 simp only [wr_i64]
 exact ite_congr rfl (fun h0=>ite_congr rfl (fun h1=>Eq.trans (if_pos h0) (Eq.trans (if_pos h1) (ite_congr rfl (fun h2=>bind_cg fun t1=>(ite_nb _ _ _)) (fun h2=>rfl)))) (fun h1=>rfl)) (fun h0=>rfl)
theorem fQ27.l0.chk (k:Nat) (x:TupT ST [.int .i64,.int .i64,.int .i64,.lst (.st 1),.int .i64,.int .i64,.lst (.st 1)]):runU TT (calF [] (fQ27.ents k)) (jmps fQ27.us k) (finK Tryz.f167 (retK TT (.one) [.bool])) Tryz.f167 (some 4) (canonC fQ27.l0.c x)=fQ27.l0 (k+1) x.1 x.2.1 x.2.2.1 x.2.2.2.1 x.2.2.2.2.1 x.2.2.2.2.2.1 x.2.2.2.2.2.2:=Eq.trans (show _=fQ27.l0.raw k x.1 x.2.1 x.2.2.1 x.2.2.2.1 x.2.2.2.2.1 x.2.2.2.2.2.1 x.2.2.2.2.2.2 by kernel_rfl) (fQ27.l0.clean k x.1 x.2.1 x.2.2.1 x.2.2.2.1 x.2.2.2.2.1 x.2.2.2.2.2.1 x.2.2.2.2.2.2)
noncomputable def fQ27.raw (k:Nat) (a0_0:Int) (a0_1:Int) (l0_2:List (I_Term)) (a1_0:Int) (a1_1:Int) (l1_2:List (I_Term)):Option (Bool):=if ¬a0_0=a1_0 then (some false) else (if ¬a0_1=a1_1 then (some false) else (if ¬(l0_2.length:Int)=(l1_2.length:Int) then (some false) else (fQ27.l0 k 0 a0_0 a0_1 l0_2 a1_0 a1_1 l1_2)))
theorem fQ27.clean (k:Nat) (a0_0:Int) (a0_1:Int) (l0_2:List (I_Term)) (a1_0:Int) (a1_1:Int) (l1_2:List (I_Term)):fQ27.raw k a0_0 a0_1 l0_2 a1_0 a1_1 l1_2=fQ27.f (k+1) a0_0 a0_1 l0_2 a1_0 a1_1 l1_2:=by
 rw [fQ27.raw,fQ27.f]
 exact Eq.trans (ite_ng _ _) (ite_congr rfl (fun h0=>Eq.trans (ite_ng _ _) (ite_congr rfl (fun h1=>ite_ng _ _) (fun h1=>rfl))) (fun h0=>rfl))
theorem fQ27.chk (k:Nat) (x:TupT ST [.int .i64,.int .i64,.lst (.st 1),.int .i64,.int .i64,.lst (.st 1)]):runU TT (calF [] (fQ27.ents k)) (jmps fQ27.us k) (finK Tryz.f167 (retK TT (.one) [.bool])) Tryz.f167 none (canon (args0 0 (argL [.agg 3,.agg 3] [.int .i64,.int .i64,.lst (.st 1),.int .i64,.int .i64,.lst (.st 1)] x)) [])=fQ27.f (k+1) x.1 x.2.1 x.2.2.1 x.2.2.2.1 x.2.2.2.2.1 x.2.2.2.2.2:=Eq.trans (show _=fQ27.raw k x.1 x.2.1 x.2.2.1 x.2.2.2.1 x.2.2.2.2.1 x.2.2.2.2.2 by kernel_rfl) (fQ27.clean k x.1 x.2.1 x.2.2.1 x.2.2.2.1 x.2.2.2.2.1 x.2.2.2.2.2)
theorem fQ27.grp:∀k:Nat,EachU (EntOk Tryz.prog TT) [fQ27.ent k]∧EachU (Ent2Ok Tryz.prog TT) []:=by
 intro k
 induction k using Nat.strongRecOn with
 | ind k ih=>
  exact And.intro (And.intro (fun_in tbl mixed 167 Tryz.f167 Tryz.func167 rfl (by kernel_rfl) [.agg 3,.agg 3] [.int .i64,.int .i64,.lst (.st 1),.int .i64,.int .i64,.lst (.st 1)] (.one) [.bool] (by kernel_rfl) [] fQ27.ents fQ27.us (And.intro (fun _=>rfl) True.intro) (And.intro fQ27.l0.chk True.intro) (fun k (x:TupT ST [.int .i64,.int .i64,.lst (.st 1),.int .i64,.int .i64,.lst (.st 1)])=>fQ27.f k x.1 x.2.1 x.2.2.1 x.2.2.2.1 x.2.2.2.2.1 x.2.2.2.2.2) (fun _=>rfl) fQ27.chk k (fun j h=>EntsOk.mk (And.intro (ih j h).1.1 True.intro) True.intro True.intro)) True.intro) True.intro
theorem fQ27.ok (k:Nat):EntOk Tryz.prog TT (fQ27.ent k):=(fQ27.grp k).1.1
mutual
noncomputable def fQ32.l0:Nat→Int→Int→Int→List (I_Term)→Int→Int→List (I_Term)→Option (Bool)
 | 0,_,_,_,_,_,_,_=>none
 | k+1,x5,b2_0,b2_1,b2_2,b3_0,b3_1,b3_2=>if x5<(b2_2.length:Int) then (if 0≤x5 then (if x5<(b3_2.length:Int) then ((fQ27.f k ((rd_I_Term b2_2 x5).f0) ((rd_I_Term b2_2 x5).f1) ((rd_I_Term b2_2 x5).f2) ((rd_I_Term b3_2 x5).f0) ((rd_I_Term b3_2 x5).f1) ((rd_I_Term b3_2 x5).f2)).bind fun t1=>(if t1=true then (fQ32.l0 k (wrap64 (x5+1)) b2_0 b2_1 b2_2 b3_0 b3_1 b3_2) else ((fQ32.f k ((rd_I_Term b2_2 x5).f0) ((rd_I_Term b2_2 x5).f1) ((rd_I_Term b2_2 x5).f2) ((rd_I_Term b3_2 x5).f0) ((rd_I_Term b3_2 x5).f1) ((rd_I_Term b3_2 x5).f2)).bind fun t2=>(some t2)))) else none) else none) else (some false)
noncomputable def fQ32.f:Nat→Int→Int→List (I_Term)→Int→Int→List (I_Term)→Option (Bool)
 | 0,_,_,_,_,_,_=>none
 | k+1,a0_0,a0_1,l0_2,a1_0,a1_1,l1_2=>if a0_0=a1_0 then (if a0_1=a1_1 then (if (l0_2.length:Int)=(l1_2.length:Int) then (fQ32.l0 k 0 a0_0 a0_1 l0_2 a1_0 a1_1 l1_2) else (some (decide ((l0_2.length:Int)<(l1_2.length:Int))))) else (some (decide (a0_1<a1_1)))) else (some (decide (a0_0<a1_0)))
end
noncomputable def fQ32.ent (k:Nat):Ent TT:=⟨251,[.agg 3,.agg 3],[.int .i64,.int .i64,.lst (.st 1),.int .i64,.int .i64,.lst (.st 1)],.one,[.bool],fun x=>fQ32.f k x.1 x.2.1 x.2.2.1 x.2.2.2.1 x.2.2.2.2.1 x.2.2.2.2.2⟩
noncomputable def fQ32.l0.c:Cut:=⟨[],[(2,2),(3,2)],[(2,.ptr 2 0),(3,.ptr 3 0),(5,.one)],[(2,[.one,.one,.one]),(3,[.one,.one,.one])],[],[.int .i64,.int .i64,.int .i64,.lst (.st 1),.int .i64,.int .i64,.lst (.st 1)]⟩
@[reducible] noncomputable def fQ32.us:List (CutU TT (TupT ST [.bool])):=[⟨8,fQ32.l0.c,fun k x=>fQ32.l0 k x.1 x.2.1 x.2.2.1 x.2.2.2.1 x.2.2.2.2.1 x.2.2.2.2.2.1 x.2.2.2.2.2.2⟩]
noncomputable def fQ32.ents (k:Nat):Ents TT:=⟨[fQ27.ent k,fQ32.ent k],[],[]⟩
noncomputable def fQ32.l0.raw (k:Nat) (x5:Int) (b2_0:Int) (b2_1:Int) (b2_2:List (I_Term)) (b3_0:Int) (b3_1:Int) (b3_2:List (I_Term)):Option (Bool):=if x5<(b2_2.length:Int) then (if 0≤x5 then (if x5<(b2_2.length:Int) then (if 0≤x5 then (if x5<(b3_2.length:Int) then ((fQ27.f k ((rd_I_Term b2_2 x5).f0) ((rd_I_Term b2_2 x5).f1) ((rd_I_Term b2_2 x5).f2) ((rd_I_Term b3_2 x5).f0) ((rd_I_Term b3_2 x5).f1) ((rd_I_Term b3_2 x5).f2)).bind fun t1=>(if (!t1)=true then (if 0≤x5 then (if x5<(b2_2.length:Int) then (if 0≤x5 then (if x5<(b3_2.length:Int) then ((fQ32.f k ((rd_I_Term b2_2 x5).f0) ((rd_I_Term b2_2 x5).f1) ((rd_I_Term b2_2 x5).f2) ((rd_I_Term b3_2 x5).f0) ((rd_I_Term b3_2 x5).f1) ((rd_I_Term b3_2 x5).f2)).bind fun t2=>(some t2)) else none) else none) else none) else none) else (fQ32.l0 k (wr .i64 (x5+1)) b2_0 b2_1 b2_2 b3_0 b3_1 b3_2))) else none) else none) else none) else none) else (some false)
theorem fQ32.l0.clean (k:Nat) (x5:Int) (b2_0:Int) (b2_1:Int) (b2_2:List (I_Term)) (b3_0:Int) (b3_1:Int) (b3_2:List (I_Term)):fQ32.l0.raw k x5 b2_0 b2_1 b2_2 b3_0 b3_1 b3_2=fQ32.l0 (k+1) x5 b2_0 b2_1 b2_2 b3_0 b3_1 b3_2:=by
 rw [fQ32.l0.raw,fQ32.l0]
 simp only [wr_i64]
 exact ite_congr rfl (fun h0=>ite_congr rfl (fun h1=>Eq.trans (if_pos h0) (Eq.trans (if_pos h1) (ite_congr rfl (fun h2=>bind_cg fun t1=>(Eq.trans (ite_nb _ _ _) (ite_congr rfl (fun h3=>rfl) (fun h3=>Eq.trans (if_pos h1) (Eq.trans (if_pos h0) (Eq.trans (if_pos h1) (if_pos h2))))))) (fun h2=>rfl)))) (fun h1=>rfl)) (fun h0=>rfl)
theorem fQ32.l0.chk (k:Nat) (x:TupT ST [.int .i64,.int .i64,.int .i64,.lst (.st 1),.int .i64,.int .i64,.lst (.st 1)]):runU TT (calF [] (fQ32.ents k)) (jmps fQ32.us k) (finK Tryz.f251 (retK TT (.one) [.bool])) Tryz.f251 (some 8) (canonC fQ32.l0.c x)=fQ32.l0 (k+1) x.1 x.2.1 x.2.2.1 x.2.2.2.1 x.2.2.2.2.1 x.2.2.2.2.2.1 x.2.2.2.2.2.2:=Eq.trans (show _=fQ32.l0.raw k x.1 x.2.1 x.2.2.1 x.2.2.2.1 x.2.2.2.2.1 x.2.2.2.2.2.1 x.2.2.2.2.2.2 by kernel_rfl) (fQ32.l0.clean k x.1 x.2.1 x.2.2.1 x.2.2.2.1 x.2.2.2.2.1 x.2.2.2.2.2.1 x.2.2.2.2.2.2)
noncomputable def fQ32.raw (k:Nat) (a0_0:Int) (a0_1:Int) (l0_2:List (I_Term)) (a1_0:Int) (a1_1:Int) (l1_2:List (I_Term)):Option (Bool):=if ¬a0_0=a1_0 then (some (decide (a0_0<a1_0))) else (if ¬a0_1=a1_1 then (some (decide (a0_1<a1_1))) else (if ¬(l0_2.length:Int)=(l1_2.length:Int) then (some (decide ((l0_2.length:Int)<(l1_2.length:Int)))) else (fQ32.l0 k 0 a0_0 a0_1 l0_2 a1_0 a1_1 l1_2)))
theorem fQ32.clean (k:Nat) (a0_0:Int) (a0_1:Int) (l0_2:List (I_Term)) (a1_0:Int) (a1_1:Int) (l1_2:List (I_Term)):fQ32.raw k a0_0 a0_1 l0_2 a1_0 a1_1 l1_2=fQ32.f (k+1) a0_0 a0_1 l0_2 a1_0 a1_1 l1_2:=by
 rw [fQ32.raw,fQ32.f]
 exact Eq.trans (ite_ng _ _) (ite_congr rfl (fun h0=>Eq.trans (ite_ng _ _) (ite_congr rfl (fun h1=>ite_ng _ _) (fun h1=>rfl))) (fun h0=>rfl))
theorem fQ32.chk (k:Nat) (x:TupT ST [.int .i64,.int .i64,.lst (.st 1),.int .i64,.int .i64,.lst (.st 1)]):runU TT (calF [] (fQ32.ents k)) (jmps fQ32.us k) (finK Tryz.f251 (retK TT (.one) [.bool])) Tryz.f251 none (canon (args0 0 (argL [.agg 3,.agg 3] [.int .i64,.int .i64,.lst (.st 1),.int .i64,.int .i64,.lst (.st 1)] x)) [])=fQ32.f (k+1) x.1 x.2.1 x.2.2.1 x.2.2.2.1 x.2.2.2.2.1 x.2.2.2.2.2:=Eq.trans (show _=fQ32.raw k x.1 x.2.1 x.2.2.1 x.2.2.2.1 x.2.2.2.2.1 x.2.2.2.2.2 by kernel_rfl) (fQ32.clean k x.1 x.2.1 x.2.2.1 x.2.2.2.1 x.2.2.2.2.1 x.2.2.2.2.2)
theorem fQ32.grp:∀k:Nat,EachU (EntOk Tryz.prog TT) [fQ32.ent k]∧EachU (Ent2Ok Tryz.prog TT) []:=by
 intro k
 induction k using Nat.strongRecOn with
 | ind k ih=>
  exact And.intro (And.intro (fun_in tbl mixed 251 Tryz.f251 Tryz.func251 rfl (by kernel_rfl) [.agg 3,.agg 3] [.int .i64,.int .i64,.lst (.st 1),.int .i64,.int .i64,.lst (.st 1)] (.one) [.bool] (by kernel_rfl) [] fQ32.ents fQ32.us (And.intro (fun _=>rfl) True.intro) (And.intro fQ32.l0.chk True.intro) (fun k (x:TupT ST [.int .i64,.int .i64,.lst (.st 1),.int .i64,.int .i64,.lst (.st 1)])=>fQ32.f k x.1 x.2.1 x.2.2.1 x.2.2.2.1 x.2.2.2.2.1 x.2.2.2.2.2) (fun _=>rfl) fQ32.chk k (fun j h=>EntsOk.mk (And.intro (fQ27.ok j) (And.intro (ih j h).1.1 True.intro)) True.intro True.intro)) True.intro) True.intro
theorem fQ32.ok (k:Nat):EntOk Tryz.prog TT (fQ32.ent k):=(fQ32.grp k).1.1
noncomputable def fQ70.f (k:Nat) (a0_0:Bool) (a0_1:Int) (a0_2:Int) (l0_3:List (I_Term)) (a0_4:Int) (a0_5:Int) (l0_6:List (I_Term)) (a1_0:Bool) (a1_1:Int) (a1_2:Int) (l1_3:List (I_Term)) (a1_4:Int) (a1_5:Int) (l1_6:List (I_Term)):Option (Bool):=if a0_0=a1_0 then ((fQ27.f k a0_1 a0_2 l0_3 a1_1 a1_2 l1_3).bind fun t1=>(if t1=true then ((fQ32.f k a0_4 a0_5 l0_6 a1_4 a1_5 l1_6).bind fun t3=>(some t3)) else ((fQ32.f k a0_1 a0_2 l0_3 a1_1 a1_2 l1_3).bind fun t2=>(some t2)))) else (some a1_0)
@[reducible] noncomputable def fQ70.us:List (CutU TT (TupT ST [.bool])):=[]
noncomputable def fQ70.ent (k:Nat):Ent TT:=⟨158,[.agg 7,.agg 7],[.bool,.int .i64,.int .i64,.lst (.st 1),.int .i64,.int .i64,.lst (.st 1),.bool,.int .i64,.int .i64,.lst (.st 1),.int .i64,.int .i64,.lst (.st 1)],.one,[.bool],fun x=>fQ70.f k x.1 x.2.1 x.2.2.1 x.2.2.2.1 x.2.2.2.2.1 x.2.2.2.2.2.1 x.2.2.2.2.2.2.1 x.2.2.2.2.2.2.2.1 x.2.2.2.2.2.2.2.2.1 x.2.2.2.2.2.2.2.2.2.1 x.2.2.2.2.2.2.2.2.2.2.1 x.2.2.2.2.2.2.2.2.2.2.2.1 x.2.2.2.2.2.2.2.2.2.2.2.2.1 x.2.2.2.2.2.2.2.2.2.2.2.2.2⟩
noncomputable def fQ70.ents (k:Nat):Ents TT:=⟨[fQ27.ent k,fQ32.ent k],[],[]⟩
noncomputable def fQ70.raw (k:Nat) (a0_0:Bool) (a0_1:Int) (a0_2:Int) (l0_3:List (I_Term)) (a0_4:Int) (a0_5:Int) (l0_6:List (I_Term)) (a1_0:Bool) (a1_1:Int) (a1_2:Int) (l1_3:List (I_Term)) (a1_4:Int) (a1_5:Int) (l1_6:List (I_Term)):Option (Bool):=if ¬a0_0=a1_0 then (some a1_0) else ((fQ27.f k a0_1 a0_2 l0_3 a1_1 a1_2 l1_3).bind fun t1=>(if (!t1)=true then ((fQ32.f k a0_1 a0_2 l0_3 a1_1 a1_2 l1_3).bind fun t2=>(some t2)) else ((fQ32.f k a0_4 a0_5 l0_6 a1_4 a1_5 l1_6).bind fun t3=>(some t3))))
theorem fQ70.clean (k:Nat) (a0_0:Bool) (a0_1:Int) (a0_2:Int) (l0_3:List (I_Term)) (a0_4:Int) (a0_5:Int) (l0_6:List (I_Term)) (a1_0:Bool) (a1_1:Int) (a1_2:Int) (l1_3:List (I_Term)) (a1_4:Int) (a1_5:Int) (l1_6:List (I_Term)):fQ70.raw k a0_0 a0_1 a0_2 l0_3 a0_4 a0_5 l0_6 a1_0 a1_1 a1_2 l1_3 a1_4 a1_5 l1_6=fQ70.f k a0_0 a0_1 a0_2 l0_3 a0_4 a0_5 l0_6 a1_0 a1_1 a1_2 l1_3 a1_4 a1_5 l1_6:=by
 rw [fQ70.raw,fQ70.f]
 exact Eq.trans (ite_ng _ _) (ite_congr rfl (fun h0=>bind_cg fun t1=>(ite_nb _ _ _)) (fun h0=>rfl))
theorem fQ70.chk (k:Nat) (x:TupT ST [.bool,.int .i64,.int .i64,.lst (.st 1),.int .i64,.int .i64,.lst (.st 1),.bool,.int .i64,.int .i64,.lst (.st 1),.int .i64,.int .i64,.lst (.st 1)]):runU TT (calF [] (fQ70.ents k)) (jmps fQ70.us k) (finK Tryz.f158 (retK TT (.one) [.bool])) Tryz.f158 none (canon (args0 0 (argL [.agg 7,.agg 7] [.bool,.int .i64,.int .i64,.lst (.st 1),.int .i64,.int .i64,.lst (.st 1),.bool,.int .i64,.int .i64,.lst (.st 1),.int .i64,.int .i64,.lst (.st 1)] x)) [])=fQ70.f k x.1 x.2.1 x.2.2.1 x.2.2.2.1 x.2.2.2.2.1 x.2.2.2.2.2.1 x.2.2.2.2.2.2.1 x.2.2.2.2.2.2.2.1 x.2.2.2.2.2.2.2.2.1 x.2.2.2.2.2.2.2.2.2.1 x.2.2.2.2.2.2.2.2.2.2.1 x.2.2.2.2.2.2.2.2.2.2.2.1 x.2.2.2.2.2.2.2.2.2.2.2.2.1 x.2.2.2.2.2.2.2.2.2.2.2.2.2:=Eq.trans (show _=fQ70.raw k x.1 x.2.1 x.2.2.1 x.2.2.2.1 x.2.2.2.2.1 x.2.2.2.2.2.1 x.2.2.2.2.2.2.1 x.2.2.2.2.2.2.2.1 x.2.2.2.2.2.2.2.2.1 x.2.2.2.2.2.2.2.2.2.1 x.2.2.2.2.2.2.2.2.2.2.1 x.2.2.2.2.2.2.2.2.2.2.2.1 x.2.2.2.2.2.2.2.2.2.2.2.2.1 x.2.2.2.2.2.2.2.2.2.2.2.2.2 by kernel_rfl) (fQ70.clean k x.1 x.2.1 x.2.2.1 x.2.2.2.1 x.2.2.2.2.1 x.2.2.2.2.2.1 x.2.2.2.2.2.2.1 x.2.2.2.2.2.2.2.1 x.2.2.2.2.2.2.2.2.1 x.2.2.2.2.2.2.2.2.2.1 x.2.2.2.2.2.2.2.2.2.2.1 x.2.2.2.2.2.2.2.2.2.2.2.1 x.2.2.2.2.2.2.2.2.2.2.2.2.1 x.2.2.2.2.2.2.2.2.2.2.2.2.2)
theorem fQ70.ok (k:Nat):EntOk Tryz.prog TT (fQ70.ent k):=
 fun_of tbl mixed 158 Tryz.f158 Tryz.func158 rfl (by kernel_rfl) [.agg 7,.agg 7] [.bool,.int .i64,.int .i64,.lst (.st 1),.int .i64,.int .i64,.lst (.st 1),.bool,.int .i64,.int .i64,.lst (.st 1),.int .i64,.int .i64,.lst (.st 1)] (.one) [.bool] (by kernel_rfl) [] fQ70.ents fQ70.us True.intro True.intro (fun k (x:TupT ST [.bool,.int .i64,.int .i64,.lst (.st 1),.int .i64,.int .i64,.lst (.st 1),.bool,.int .i64,.int .i64,.lst (.st 1),.int .i64,.int .i64,.lst (.st 1)])=>fQ70.f k x.1 x.2.1 x.2.2.1 x.2.2.2.1 x.2.2.2.2.1 x.2.2.2.2.2.1 x.2.2.2.2.2.2.1 x.2.2.2.2.2.2.2.1 x.2.2.2.2.2.2.2.2.1 x.2.2.2.2.2.2.2.2.2.1 x.2.2.2.2.2.2.2.2.2.2.1 x.2.2.2.2.2.2.2.2.2.2.2.1 x.2.2.2.2.2.2.2.2.2.2.2.2.1 x.2.2.2.2.2.2.2.2.2.2.2.2.2) fQ70.chk (fun k=>EntsOk.mk (And.intro (fQ27.ok k) (And.intro (fQ32.ok k) True.intro)) True.intro True.intro) k
noncomputable def fQ85.f (k:Nat) (a0_0:Bool) (a0_1:Int) (a0_2:Int) (l0_3:List (I_Term)) (a0_4:Int) (a0_5:Int) (l0_6:List (I_Term)) (a1_0:Bool) (a1_1:Int) (a1_2:Int) (l1_3:List (I_Term)) (a1_4:Int) (a1_5:Int) (l1_6:List (I_Term)):Option (Bool):=if a0_0=a1_0 then ((fQ27.f k a0_1 a0_2 l0_3 a1_1 a1_2 l1_3).bind fun t1=>(if t1=true then ((fQ27.f k a0_4 a0_5 l0_6 a1_4 a1_5 l1_6).bind fun t2=>(some t2)) else (some false))) else (some false)
@[reducible] noncomputable def fQ85.us:List (CutU TT (TupT ST [.bool])):=[]
noncomputable def fQ85.ent (k:Nat):Ent TT:=⟨181,[.agg 7,.agg 7],[.bool,.int .i64,.int .i64,.lst (.st 1),.int .i64,.int .i64,.lst (.st 1),.bool,.int .i64,.int .i64,.lst (.st 1),.int .i64,.int .i64,.lst (.st 1)],.one,[.bool],fun x=>fQ85.f k x.1 x.2.1 x.2.2.1 x.2.2.2.1 x.2.2.2.2.1 x.2.2.2.2.2.1 x.2.2.2.2.2.2.1 x.2.2.2.2.2.2.2.1 x.2.2.2.2.2.2.2.2.1 x.2.2.2.2.2.2.2.2.2.1 x.2.2.2.2.2.2.2.2.2.2.1 x.2.2.2.2.2.2.2.2.2.2.2.1 x.2.2.2.2.2.2.2.2.2.2.2.2.1 x.2.2.2.2.2.2.2.2.2.2.2.2.2⟩
noncomputable def fQ85.ents (k:Nat):Ents TT:=⟨[fQ27.ent k],[],[]⟩
theorem fQ85.chk (k:Nat) (x:TupT ST [.bool,.int .i64,.int .i64,.lst (.st 1),.int .i64,.int .i64,.lst (.st 1),.bool,.int .i64,.int .i64,.lst (.st 1),.int .i64,.int .i64,.lst (.st 1)]):runU TT (calF [] (fQ85.ents k)) (jmps fQ85.us k) (finK Tryz.f181 (retK TT (.one) [.bool])) Tryz.f181 none (canon (args0 0 (argL [.agg 7,.agg 7] [.bool,.int .i64,.int .i64,.lst (.st 1),.int .i64,.int .i64,.lst (.st 1),.bool,.int .i64,.int .i64,.lst (.st 1),.int .i64,.int .i64,.lst (.st 1)] x)) [])=fQ85.f k x.1 x.2.1 x.2.2.1 x.2.2.2.1 x.2.2.2.2.1 x.2.2.2.2.2.1 x.2.2.2.2.2.2.1 x.2.2.2.2.2.2.2.1 x.2.2.2.2.2.2.2.2.1 x.2.2.2.2.2.2.2.2.2.1 x.2.2.2.2.2.2.2.2.2.2.1 x.2.2.2.2.2.2.2.2.2.2.2.1 x.2.2.2.2.2.2.2.2.2.2.2.2.1 x.2.2.2.2.2.2.2.2.2.2.2.2.2:=by kernel_rfl
theorem fQ85.ok (k:Nat):EntOk Tryz.prog TT (fQ85.ent k):=
 fun_of tbl mixed 181 Tryz.f181 Tryz.func181 rfl (by kernel_rfl) [.agg 7,.agg 7] [.bool,.int .i64,.int .i64,.lst (.st 1),.int .i64,.int .i64,.lst (.st 1),.bool,.int .i64,.int .i64,.lst (.st 1),.int .i64,.int .i64,.lst (.st 1)] (.one) [.bool] (by kernel_rfl) [] fQ85.ents fQ85.us True.intro True.intro (fun k (x:TupT ST [.bool,.int .i64,.int .i64,.lst (.st 1),.int .i64,.int .i64,.lst (.st 1),.bool,.int .i64,.int .i64,.lst (.st 1),.int .i64,.int .i64,.lst (.st 1)])=>fQ85.f k x.1 x.2.1 x.2.2.1 x.2.2.2.1 x.2.2.2.2.1 x.2.2.2.2.2.1 x.2.2.2.2.2.2.1 x.2.2.2.2.2.2.2.1 x.2.2.2.2.2.2.2.2.1 x.2.2.2.2.2.2.2.2.2.1 x.2.2.2.2.2.2.2.2.2.2.1 x.2.2.2.2.2.2.2.2.2.2.2.1 x.2.2.2.2.2.2.2.2.2.2.2.2.1 x.2.2.2.2.2.2.2.2.2.2.2.2.2) fQ85.chk (fun k=>EntsOk.mk (And.intro (fQ27.ok k) True.intro) True.intro True.intro) k
noncomputable def spec_l1In.f (a0:Int) (a1:Int) (a2:Int):Option (Bool):=if a0≥a1 then (some (decide (a0≤a2))) else (some false)
@[reducible] noncomputable def spec_l1In.us:List (CutU TT (TupT ST [.bool])):=[]
noncomputable def spec_l1In.ent:Ent TT:=⟨123,[.one,.one,.one],[.int .i64,.int .i64,.int .i64],.one,[.bool],fun x=>spec_l1In.f x.1 x.2.1 x.2.2⟩
noncomputable def spec_l1In.ents (k:Nat):Ents TT:=⟨[],[],[]⟩
theorem spec_l1In.chk (k:Nat) (x:TupT ST [.int .i64,.int .i64,.int .i64]):runU TT (calF [] (spec_l1In.ents k)) (jmps spec_l1In.us k) (finK Tryz.f123 (retK TT (.one) [.bool])) Tryz.f123 none (canon (args0 0 (argL [.one,.one,.one] [.int .i64,.int .i64,.int .i64] x)) [])=spec_l1In.f x.1 x.2.1 x.2.2:=by kernel_rfl
theorem spec_l1In.ok:EntOk Tryz.prog TT (spec_l1In.ent):=
 fun_of tbl mixed 123 Tryz.f123 Tryz.func123 rfl (by kernel_rfl) [.one,.one,.one] [.int .i64,.int .i64,.int .i64] (.one) [.bool] (by kernel_rfl) [] spec_l1In.ents spec_l1In.us True.intro True.intro (fun k (x:TupT ST [.int .i64,.int .i64,.int .i64])=>spec_l1In.f x.1 x.2.1 x.2.2) spec_l1In.chk (fun k=>EntsOk.mk True.intro True.intro True.intro) 0
noncomputable def fQ79.f (l0:List (I_Sym)) (a1:Int):Option (Bool):=(spec_l1In.f a1 0 (wrap64 ((l0.length:Int) - 1))).bind fun t1=>(if t1=true then (if 0≤a1 then (if a1<(l0.length:Int) then (some ((rd_I_Sym l0 a1).f2)) else none) else none) else (some false))
@[reducible] noncomputable def fQ79.us:List (CutU TT (TupT ST [.bool])):=[]
noncomputable def fQ79.ent:Ent TT:=⟨193,[.one,.one],[.lst (.st 0),.int .i64],.one,[.bool],fun x=>fQ79.f x.1 x.2⟩
noncomputable def fQ79.ents (k:Nat):Ents TT:=⟨[spec_l1In.ent],[],[]⟩
noncomputable def fQ79.raw (k:Nat) (l0:List (I_Sym)) (a1:Int):Option (Bool):=(spec_l1In.f a1 0 (wr .i64 ((l0.length:Int) - 1))).bind fun t1=>(if t1=true then (if 0≤a1 then (if a1<(l0.length:Int) then (some ((rd_I_Sym l0 a1).f2)) else none) else none) else (some false))
theorem fQ79.clean (k:Nat) (l0:List (I_Sym)) (a1:Int):fQ79.raw k l0 a1=fQ79.f l0 a1:=by
 rw [fQ79.raw,fQ79.f]
 simp only [wr_i64]
theorem fQ79.chk (k:Nat) (x:TupT ST [.lst (.st 0),.int .i64]):runU TT (calF [] (fQ79.ents k)) (jmps fQ79.us k) (finK Tryz.f193 (retK TT (.one) [.bool])) Tryz.f193 none (canon (args0 0 (argL [.one,.one] [.lst (.st 0),.int .i64] x)) [])=fQ79.f x.1 x.2:=Eq.trans (show _=fQ79.raw k x.1 x.2 by kernel_rfl) (fQ79.clean k x.1 x.2)
theorem fQ79.ok:EntOk Tryz.prog TT (fQ79.ent):=
 fun_of tbl mixed 193 Tryz.f193 Tryz.func193 rfl (by kernel_rfl) [.one,.one] [.lst (.st 0),.int .i64] (.one) [.bool] (by kernel_rfl) [] fQ79.ents fQ79.us True.intro True.intro (fun k (x:TupT ST [.lst (.st 0),.int .i64])=>fQ79.f x.1 x.2) fQ79.chk (fun k=>EntsOk.mk (And.intro spec_l1In.ok True.intro) True.intro True.intro) 0
noncomputable def fQ74.l0:Nat→List (I_Term)→Int→Int→Int→List (I_Term)→Option ((List (I_Term)))
 | 0,_,_,_,_,_=>none
 | k+1,x0,x5,b3_0,b3_1,b3_2=>if x5<(x0.length:Int) then (if 0≤x5 then ((fQ32.f k b3_0 b3_1 b3_2 ((rd_I_Term x0 x5).f0) ((rd_I_Term x0 x5).f1) ((rd_I_Term x0 x5).f2)).bind fun t1=>(if t1=true then (if x5≤(x0.length:Int) then (if ([]:List (I_Term)).length+(x0.take (x5:Int).toNat).length≤1599289640401 then (if (([]:List (I_Term))++(x0.take (x5:Int).toNat)).length+([⟨b3_0,b3_1,b3_2⟩]:List (I_Term)).length≤1599289640401 then (if ((([]:List (I_Term))++(x0.take (x5:Int).toNat))++([⟨b3_0,b3_1,b3_2⟩]:List (I_Term))).length+(x0.drop (x5:Int).toNat).length≤1599289640401 then (some (((([]:List (I_Term))++(x0.take (x5:Int).toNat))++([⟨b3_0,b3_1,b3_2⟩]:List (I_Term)))++(x0.drop (x5:Int).toNat))) else none) else none) else none) else none) else (fQ74.l0 k x0 (wrap64 (x5+1)) b3_0 b3_1 b3_2))) else none) else (if 0≤x5 then (if x5≤(x0.length:Int) then (if ([]:List (I_Term)).length+(x0.take (x5:Int).toNat).length≤1599289640401 then (if (([]:List (I_Term))++(x0.take (x5:Int).toNat)).length+([⟨b3_0,b3_1,b3_2⟩]:List (I_Term)).length≤1599289640401 then (if ((([]:List (I_Term))++(x0.take (x5:Int).toNat))++([⟨b3_0,b3_1,b3_2⟩]:List (I_Term))).length+(x0.drop (x5:Int).toNat).length≤1599289640401 then (some (((([]:List (I_Term))++(x0.take (x5:Int).toNat))++([⟨b3_0,b3_1,b3_2⟩]:List (I_Term)))++(x0.drop (x5:Int).toNat))) else none) else none) else none) else none) else none)
noncomputable def fQ74.f (k:Nat) (l0:List (I_Term)) (a1_0:Int) (a1_1:Int) (l1_2:List (I_Term)):Option ((List (I_Term))):=fQ74.l0 k l0 0 a1_0 a1_1 l1_2
noncomputable def fQ74.l0.c:Cut:=⟨[0],[(3,2)],[(0,.one),(3,.ptr 3 0),(5,.one)],[(3,[.one,.one,.one])],[],[.lst (.st 1),.int .i64,.int .i64,.int .i64,.lst (.st 1)]⟩
@[reducible] noncomputable def fQ74.us:List (CutU TT (TupT ST [.lst (.st 1)])):=[⟨2,fQ74.l0.c,fun k x=>fQ74.l0 k x.1 x.2.1 x.2.2.1 x.2.2.2.1 x.2.2.2.2⟩]
noncomputable def fQ74.ent (k:Nat):Ent TT:=⟨288,[.one,.agg 3],[.lst (.st 1),.int .i64,.int .i64,.lst (.st 1)],.one,[.lst (.st 1)],fun x=>fQ74.f k x.1 x.2.1 x.2.2.1 x.2.2.2⟩
noncomputable def fQ74.ents (k:Nat):Ents TT:=⟨[fQ32.ent k],[],[]⟩
noncomputable def fQ74.l0.raw (k:Nat) (x0:List (I_Term)) (x5:Int) (b3_0:Int) (b3_1:Int) (b3_2:List (I_Term)):Option ((List (I_Term))):=if x5<(x0.length:Int) then (if 0≤x5 then (if x5<(x0.length:Int) then ((fQ32.f k b3_0 b3_1 b3_2 ((rd_I_Term x0 x5).f0) ((rd_I_Term x0 x5).f1) ((rd_I_Term x0 x5).f2)).bind fun t1=>(if (!t1)=true then (fQ74.l0 k x0 (wr .i64 (x5+1)) b3_0 b3_1 b3_2) else (if 0≤x5 then (if x5≤(x0.length:Int) then (if ([]:List (I_Term)).length+(x0.take (x5:Int).toNat).length≤1599289640401 then (if (([]:List (I_Term))++(x0.take (x5:Int).toNat)).length+([⟨b3_0,b3_1,b3_2⟩]:List (I_Term)).length≤1599289640401 then (if 0≤x5 then (if x5≤(x0.length:Int) then (if ((([]:List (I_Term))++(x0.take (x5:Int).toNat))++([⟨b3_0,b3_1,b3_2⟩]:List (I_Term))).length+(x0.drop (x5:Int).toNat).length≤1599289640401 then (some (((([]:List (I_Term))++(x0.take (x5:Int).toNat))++([⟨b3_0,b3_1,b3_2⟩]:List (I_Term)))++(x0.drop (x5:Int).toNat))) else none) else none) else none) else none) else none) else none) else none))) else none) else none) else (if 0≤x5 then (if x5≤(x0.length:Int) then (if ([]:List (I_Term)).length+(x0.take (x5:Int).toNat).length≤1599289640401 then (if (([]:List (I_Term))++(x0.take (x5:Int).toNat)).length+([⟨b3_0,b3_1,b3_2⟩]:List (I_Term)).length≤1599289640401 then (if 0≤x5 then (if x5≤(x0.length:Int) then (if ((([]:List (I_Term))++(x0.take (x5:Int).toNat))++([⟨b3_0,b3_1,b3_2⟩]:List (I_Term))).length+(x0.drop (x5:Int).toNat).length≤1599289640401 then (some (((([]:List (I_Term))++(x0.take (x5:Int).toNat))++([⟨b3_0,b3_1,b3_2⟩]:List (I_Term)))++(x0.drop (x5:Int).toNat))) else none) else none) else none) else none) else none) else none) else none)
theorem fQ74.l0.clean (k:Nat) (x0:List (I_Term)) (x5:Int) (b3_0:Int) (b3_1:Int) (b3_2:List (I_Term)):fQ74.l0.raw k x0 x5 b3_0 b3_1 b3_2=fQ74.l0 (k+1) x0 x5 b3_0 b3_1 b3_2:=by
 rw [fQ74.l0.raw,fQ74.l0]
 simp only [wr_i64]
 exact ite_congr rfl (fun h0=>ite_congr rfl (fun h1=>Eq.trans (if_pos h0) (bind_cg fun t1=>(Eq.trans (ite_nb _ _ _) (ite_congr rfl (fun h2=>Eq.trans (if_pos h1) (ite_congr rfl (fun h3=>ite_congr rfl (fun h4=>ite_congr rfl (fun h5=>Eq.trans (if_pos h1) (if_pos h3)) (fun h5=>rfl)) (fun h4=>rfl)) (fun h3=>rfl))) (fun h2=>rfl))))) (fun h1=>rfl)) (fun h0=>ite_congr rfl (fun h1=>ite_congr rfl (fun h2=>ite_congr rfl (fun h3=>ite_congr rfl (fun h4=>Eq.trans (if_pos h1) (if_pos h2)) (fun h4=>rfl)) (fun h3=>rfl)) (fun h2=>rfl)) (fun h1=>rfl))
theorem fQ74.l0.chk (k:Nat) (x:TupT ST [.lst (.st 1),.int .i64,.int .i64,.int .i64,.lst (.st 1)]):runU TT (calF [] (fQ74.ents k)) (jmps fQ74.us k) (finK Tryz.f288 (retK TT (.one) [.lst (.st 1)])) Tryz.f288 (some 2) (canonC fQ74.l0.c x)=fQ74.l0 (k+1) x.1 x.2.1 x.2.2.1 x.2.2.2.1 x.2.2.2.2:=Eq.trans (show _=fQ74.l0.raw k x.1 x.2.1 x.2.2.1 x.2.2.2.1 x.2.2.2.2 by kernel_rfl) (fQ74.l0.clean k x.1 x.2.1 x.2.2.1 x.2.2.2.1 x.2.2.2.2)
theorem fQ74.chk (k:Nat) (x:TupT ST [.lst (.st 1),.int .i64,.int .i64,.lst (.st 1)]):runU TT (calF [] (fQ74.ents k)) (jmps fQ74.us k) (finK Tryz.f288 (retK TT (.one) [.lst (.st 1)])) Tryz.f288 none (canon (args0 0 (argL [.one,.agg 3] [.lst (.st 1),.int .i64,.int .i64,.lst (.st 1)] x)) [])=fQ74.f k x.1 x.2.1 x.2.2.1 x.2.2.2:=by kernel_rfl
theorem fQ74.ok (k:Nat):EntOk Tryz.prog TT (fQ74.ent k):=
 fun_of tbl mixed 288 Tryz.f288 Tryz.func288 rfl (by kernel_rfl) [.one,.agg 3] [.lst (.st 1),.int .i64,.int .i64,.lst (.st 1)] (.one) [.lst (.st 1)] (by kernel_rfl) [] fQ74.ents fQ74.us (And.intro (fun _=>rfl) True.intro) (And.intro fQ74.l0.chk True.intro) (fun k (x:TupT ST [.lst (.st 1),.int .i64,.int .i64,.lst (.st 1)])=>fQ74.f k x.1 x.2.1 x.2.2.1 x.2.2.2) fQ74.chk (fun k=>EntsOk.mk (And.intro (fQ32.ok k) True.intro) True.intro True.intro) k
noncomputable def fQ33.l0:Nat→List (I_Term)→Int→Int→Int→List (I_Term)→Option ((List (I_Term)))
 | 0,_,_,_,_,_=>none
 | k+1,x0,x5,b3_0,b3_1,b3_2=>if x5<(x0.length:Int) then (if 0≤x5 then ((fQ32.f k b3_0 b3_1 b3_2 ((rd_I_Term x0 x5).f0) ((rd_I_Term x0 x5).f1) ((rd_I_Term x0 x5).f2)).bind fun t1=>(if t1=true then (if x5≤(x0.length:Int) then (if ([]:List (I_Term)).length+(x0.take (x5:Int).toNat).length≤1599289640401 then (if (([]:List (I_Term))++(x0.take (x5:Int).toNat)).length+([⟨b3_0,b3_1,b3_2⟩]:List (I_Term)).length≤1599289640401 then (if ((([]:List (I_Term))++(x0.take (x5:Int).toNat))++([⟨b3_0,b3_1,b3_2⟩]:List (I_Term))).length+(x0.drop (x5:Int).toNat).length≤1599289640401 then (some (((([]:List (I_Term))++(x0.take (x5:Int).toNat))++([⟨b3_0,b3_1,b3_2⟩]:List (I_Term)))++(x0.drop (x5:Int).toNat))) else none) else none) else none) else none) else (fQ33.l0 k x0 (wrap64 (x5+1)) b3_0 b3_1 b3_2))) else none) else (if 0≤x5 then (if x5≤(x0.length:Int) then (if ([]:List (I_Term)).length+(x0.take (x5:Int).toNat).length≤1599289640401 then (if (([]:List (I_Term))++(x0.take (x5:Int).toNat)).length+([⟨b3_0,b3_1,b3_2⟩]:List (I_Term)).length≤1599289640401 then (if ((([]:List (I_Term))++(x0.take (x5:Int).toNat))++([⟨b3_0,b3_1,b3_2⟩]:List (I_Term))).length+(x0.drop (x5:Int).toNat).length≤1599289640401 then (some (((([]:List (I_Term))++(x0.take (x5:Int).toNat))++([⟨b3_0,b3_1,b3_2⟩]:List (I_Term)))++(x0.drop (x5:Int).toNat))) else none) else none) else none) else none) else none)
noncomputable def fQ33.f (k:Nat) (l0:List (I_Term)) (a1_0:Int) (a1_1:Int) (a1_2:List (I_Term)):Option ((List (I_Term))):=fQ33.l0 k l0 0 a1_0 a1_1 a1_2
noncomputable def fQ33.pin:Cut:=⟨[0],[],[(0,.one),(1,.agg [.one,.one,.one])],[],[],[.lst (.st 1),.int .i64,.int .i64,.lst (.st 1)]⟩
noncomputable def fQ33.pout:Cut:=⟨[],[],[(4,.own 22)],[],[(22,.st 1)],[.lst (.st 1)]⟩
noncomputable def fQ33.l0.c:Cut:=⟨[0],[(3,2)],[(0,.one),(3,.ptr 3 0),(5,.one)],[(3,[.one,.one,.one])],[],[.lst (.st 1),.int .i64,.int .i64,.int .i64,.lst (.st 1)]⟩
@[reducible] noncomputable def fQ33.us:List (CutU TT (TupT ST fQ33.pout.es)):=[⟨2,fQ33.l0.c,fun k x=>fQ33.l0 k x.1 x.2.1 x.2.2.1 x.2.2.2.1 x.2.2.2.2⟩]
noncomputable def fQ33.ent (k:Nat):Ent2 TT:=⟨288,2,fQ33.pin,fQ33.pout,Tryz.f288.results.toList,fun x=>fQ33.f k x.1 x.2.1 x.2.2.1 x.2.2.2⟩
noncomputable def fQ33.ents (k:Nat):Ents TT:=⟨[fQ32.ent k],[],[]⟩
noncomputable def fQ33.l0.raw (k:Nat) (x0:List (I_Term)) (x5:Int) (b3_0:Int) (b3_1:Int) (b3_2:List (I_Term)):Option ((List (I_Term))):=if x5<(x0.length:Int) then (if 0≤x5 then (if x5<(x0.length:Int) then ((fQ32.f k b3_0 b3_1 b3_2 ((rd_I_Term x0 x5).f0) ((rd_I_Term x0 x5).f1) ((rd_I_Term x0 x5).f2)).bind fun t1=>(if (!t1)=true then (fQ33.l0 k x0 (wr .i64 (x5+1)) b3_0 b3_1 b3_2) else (if 0≤x5 then (if x5≤(x0.length:Int) then (if ([]:List (I_Term)).length+(x0.take (x5:Int).toNat).length≤1599289640401 then (if (([]:List (I_Term))++(x0.take (x5:Int).toNat)).length+([⟨b3_0,b3_1,b3_2⟩]:List (I_Term)).length≤1599289640401 then (if 0≤x5 then (if x5≤(x0.length:Int) then (if ((([]:List (I_Term))++(x0.take (x5:Int).toNat))++([⟨b3_0,b3_1,b3_2⟩]:List (I_Term))).length+(x0.drop (x5:Int).toNat).length≤1599289640401 then (some (((([]:List (I_Term))++(x0.take (x5:Int).toNat))++([⟨b3_0,b3_1,b3_2⟩]:List (I_Term)))++(x0.drop (x5:Int).toNat))) else none) else none) else none) else none) else none) else none) else none))) else none) else none) else (if 0≤x5 then (if x5≤(x0.length:Int) then (if ([]:List (I_Term)).length+(x0.take (x5:Int).toNat).length≤1599289640401 then (if (([]:List (I_Term))++(x0.take (x5:Int).toNat)).length+([⟨b3_0,b3_1,b3_2⟩]:List (I_Term)).length≤1599289640401 then (if 0≤x5 then (if x5≤(x0.length:Int) then (if ((([]:List (I_Term))++(x0.take (x5:Int).toNat))++([⟨b3_0,b3_1,b3_2⟩]:List (I_Term))).length+(x0.drop (x5:Int).toNat).length≤1599289640401 then (some (((([]:List (I_Term))++(x0.take (x5:Int).toNat))++([⟨b3_0,b3_1,b3_2⟩]:List (I_Term)))++(x0.drop (x5:Int).toNat))) else none) else none) else none) else none) else none) else none) else none)
theorem fQ33.l0.clean (k:Nat) (x0:List (I_Term)) (x5:Int) (b3_0:Int) (b3_1:Int) (b3_2:List (I_Term)):fQ33.l0.raw k x0 x5 b3_0 b3_1 b3_2=fQ33.l0 (k+1) x0 x5 b3_0 b3_1 b3_2:=by
 rw [fQ33.l0.raw,fQ33.l0]
 simp only [wr_i64]
 exact ite_congr rfl (fun h0=>ite_congr rfl (fun h1=>Eq.trans (if_pos h0) (bind_cg fun t1=>(Eq.trans (ite_nb _ _ _) (ite_congr rfl (fun h2=>Eq.trans (if_pos h1) (ite_congr rfl (fun h3=>ite_congr rfl (fun h4=>ite_congr rfl (fun h5=>Eq.trans (if_pos h1) (if_pos h3)) (fun h5=>rfl)) (fun h4=>rfl)) (fun h3=>rfl))) (fun h2=>rfl))))) (fun h1=>rfl)) (fun h0=>ite_congr rfl (fun h1=>ite_congr rfl (fun h2=>ite_congr rfl (fun h3=>ite_congr rfl (fun h4=>Eq.trans (if_pos h1) (if_pos h2)) (fun h4=>rfl)) (fun h3=>rfl)) (fun h2=>rfl)) (fun h1=>rfl))
theorem fQ33.l0.chk (k:Nat) (x:TupT ST [.lst (.st 1),.int .i64,.int .i64,.int .i64,.lst (.st 1)]):runU TT (calF [] (fQ33.ents k)) (jmps fQ33.us k) (finC fQ33.pout Tryz.f288.results.toList) Tryz.f288 (some 2) (canonC fQ33.l0.c x)=fQ33.l0 (k+1) x.1 x.2.1 x.2.2.1 x.2.2.2.1 x.2.2.2.2:=Eq.trans (show _=fQ33.l0.raw k x.1 x.2.1 x.2.2.1 x.2.2.2.1 x.2.2.2.2 by kernel_rfl) (fQ33.l0.clean k x.1 x.2.1 x.2.2.1 x.2.2.2.1 x.2.2.2.2)
theorem fQ33.chk (k:Nat) (x:TupT ST fQ33.pin.es):runU TT (calF [] (fQ33.ents k)) (jmps fQ33.us k) (finC fQ33.pout Tryz.f288.results.toList) Tryz.f288 none (canonC fQ33.pin x)=fQ33.f k x.1 x.2.1 x.2.2.1 x.2.2.2:=by kernel_rfl
theorem fQ33.ok (k:Nat):Ent2Ok Tryz.prog TT (fQ33.ent k):=
 fun_of2 tbl mixed 288 Tryz.f288 Tryz.func288 rfl (by kernel_rfl) 2 fQ33.pin fQ33.pout (by kernel_rfl) [] fQ33.ents fQ33.us (And.intro (fun _=>rfl) True.intro) (And.intro fQ33.l0.chk True.intro) (fun k (x:TupT ST fQ33.pin.es)=>fQ33.f k x.1 x.2.1 x.2.2.1 x.2.2.2) fQ33.chk (fun k=>EntsOk.mk (And.intro (fQ32.ok k) True.intro) True.intro True.intro) k
mutual
noncomputable def spec_Norm.l0:Nat→List (I_Sym)→Int→Int→Int→List (I_Term)→Int→Int→Int→Int→List (I_Term)→Option (Int×Int×(List (I_Term)))
 | 0,_,_,_,_,_,_,_,_,_,_=>none
 | k+1,x0,x6,b3_0,b3_1,b3_2,b4_0,b4_1,b5_0,b5_1,b5_2=>if x6<(b3_2.length:Int) then (if 0≤x6 then ((spec_Norm.f k x0 ((rd_I_Term b3_2 x6).f0) ((rd_I_Term b3_2 x6).f1) ((rd_I_Term b3_2 x6).f2)).bind fun t1=>((fQ79.f x0 b3_0).bind fun t2=>(if t2=true then (if t1.1=b3_0 then (spec_Norm.l1 k x0 x6 0 b3_0 b3_1 b3_2 b4_0 b4_1 b5_0 b5_1 b5_2 t1.1 t1.2.1 t1.2.2) else ((fQ33.f k b5_2 t1.1 t1.2.1 t1.2.2).bind fun t3=>(spec_Norm.l0 k x0 (wrap64 (x6+1)) b3_0 b3_1 b3_2 b4_0 b4_1 b5_0 b5_1 t3))) else (if b5_2.length+([⟨t1.1,t1.2.1,t1.2.2⟩]:List (I_Term)).length≤1599289640401 then (spec_Norm.l0 k x0 (wrap64 (x6+1)) b3_0 b3_1 b3_2 b4_0 b4_1 b5_0 b5_1 (b5_2++([⟨t1.1,t1.2.1,t1.2.2⟩]:List (I_Term)))) else none)))) else none) else (some (b5_0,b5_1,b5_2))
noncomputable def spec_Norm.l1:Nat→List (I_Sym)→Int→Int→Int→Int→List (I_Term)→Int→Int→Int→Int→List (I_Term)→Int→Int→List (I_Term)→Option (Int×Int×(List (I_Term)))
 | 0,_,_,_,_,_,_,_,_,_,_,_,_,_,_=>none
 | k+1,x0,x6,x8,b3_0,b3_1,b3_2,b4_0,b4_1,b5_0,b5_1,b5_2,b7_0,b7_1,b7_2=>if x8<(b7_2.length:Int) then (if 0≤x8 then ((fQ33.f k b5_2 ((rd_I_Term b7_2 x8).f0) ((rd_I_Term b7_2 x8).f1) ((rd_I_Term b7_2 x8).f2)).bind fun t4=>(spec_Norm.l1 k x0 x6 (wrap64 (x8+1)) b3_0 b3_1 b3_2 b4_0 b4_1 b5_0 b5_1 t4 b7_0 b7_1 b7_2)) else none) else (spec_Norm.l0 k x0 (wrap64 (x6+1)) b3_0 b3_1 b3_2 b4_0 b4_1 b5_0 b5_1 b5_2)
noncomputable def spec_Norm.f:Nat→List (I_Sym)→Int→Int→List (I_Term)→Option (Int×Int×(List (I_Term)))
 | 0,_,_,_,_=>none
 | k+1,l0,a1_0,a1_1,l1_2=>spec_Norm.l0 k l0 0 a1_0 a1_1 l1_2 0 0 a1_0 a1_1 []
end
noncomputable def spec_Norm.ent (k:Nat):Ent TT:=⟨263,[.one,.agg 3],[.lst (.st 0),.int .i64,.int .i64,.lst (.st 1)],.agg 3,[.int .i64,.int .i64,.lst (.st 1)],fun x=>spec_Norm.f k x.1 x.2.1 x.2.2.1 x.2.2.2⟩
noncomputable def spec_Norm.l0.c:Cut:=⟨[0],[(3,2)],[(0,.one),(3,.ptr 3 0),(4,.ptr 4 0),(5,.ptr 5 0),(6,.one)],[(3,[.one,.one,.one]),(4,[.one,.one,.nil]),(5,[.one,.one,.own 54])],[(54,.st 1)],[.lst (.st 0),.int .i64,.int .i64,.int .i64,.lst (.st 1),.int .i64,.int .i64,.int .i64,.int .i64,.lst (.st 1)]⟩
noncomputable def spec_Norm.l1.c:Cut:=⟨[0],[(3,2),(7,2)],[(0,.one),(3,.ptr 3 0),(4,.ptr 4 0),(5,.ptr 5 0),(6,.one),(7,.ptr 7 0),(8,.one)],[(3,[.one,.one,.one]),(4,[.one,.one,.nil]),(5,[.one,.one,.own 1507371]),(7,[.one,.one,.one])],[(1507371,.st 1)],[.lst (.st 0),.int .i64,.int .i64,.int .i64,.int .i64,.lst (.st 1),.int .i64,.int .i64,.int .i64,.int .i64,.int .i64,.int .i64,.lst (.st 1),.lst (.st 1)]⟩
@[reducible] noncomputable def spec_Norm.us:List (CutU TT (TupT ST [.int .i64,.int .i64,.lst (.st 1)])):=[⟨3,spec_Norm.l0.c,fun k x=>spec_Norm.l0 k x.1 x.2.1 x.2.2.1 x.2.2.2.1 x.2.2.2.2.1 x.2.2.2.2.2.1 x.2.2.2.2.2.2.1 x.2.2.2.2.2.2.2.1 x.2.2.2.2.2.2.2.2.1 x.2.2.2.2.2.2.2.2.2⟩,⟨7,spec_Norm.l1.c,fun k x=>spec_Norm.l1 k x.1 x.2.1 x.2.2.1 x.2.2.2.1 x.2.2.2.2.1 x.2.2.2.2.2.1 x.2.2.2.2.2.2.1 x.2.2.2.2.2.2.2.1 x.2.2.2.2.2.2.2.2.1 x.2.2.2.2.2.2.2.2.2.1 x.2.2.2.2.2.2.2.2.2.2.2.2.2 x.2.2.2.2.2.2.2.2.2.2.1 x.2.2.2.2.2.2.2.2.2.2.2.1 x.2.2.2.2.2.2.2.2.2.2.2.2.1⟩]
noncomputable def spec_Norm.ents (k:Nat):Ents TT:=⟨[spec_Norm.ent k,fQ79.ent],[fQ33.ent k],[]⟩
noncomputable def spec_Norm.l0.raw (k:Nat) (x0:List (I_Sym)) (x6:Int) (b3_0:Int) (b3_1:Int) (b3_2:List (I_Term)) (b4_0:Int) (b4_1:Int) (b5_0:Int) (b5_1:Int) (b5_2:List (I_Term)):Option (Int×Int×(List (I_Term))):=if x6<(b3_2.length:Int) then (if 0≤x6 then (if x6<(b3_2.length:Int) then ((spec_Norm.f k x0 ((rd_I_Term b3_2 x6).f0) ((rd_I_Term b3_2 x6).f1) ((rd_I_Term b3_2 x6).f2)).bind fun t1=>((fQ79.f x0 b3_0).bind fun t2=>(if (!t2)=true then (if b5_2.length+([⟨t1.1,t1.2.1,t1.2.2⟩]:List (I_Term)).length≤1599289640401 then (spec_Norm.l0 k x0 (wr .i64 (x6+1)) b3_0 b3_1 b3_2 b4_0 b4_1 b5_0 b5_1 (b5_2++([⟨t1.1,t1.2.1,t1.2.2⟩]:List (I_Term)))) else none) else (if ¬t1.1=b3_0 then ((fQ33.f k b5_2 t1.1 t1.2.1 t1.2.2).bind fun t3=>(spec_Norm.l0 k x0 (wr .i64 (x6+1)) b3_0 b3_1 b3_2 b4_0 b4_1 b5_0 b5_1 t3)) else (spec_Norm.l1 k x0 x6 0 b3_0 b3_1 b3_2 b4_0 b4_1 b5_0 b5_1 b5_2 t1.1 t1.2.1 t1.2.2))))) else none) else none) else (some (b5_0,b5_1,b5_2))
theorem spec_Norm.l0.clean (k:Nat) (x0:List (I_Sym)) (x6:Int) (b3_0:Int) (b3_1:Int) (b3_2:List (I_Term)) (b4_0:Int) (b4_1:Int) (b5_0:Int) (b5_1:Int) (b5_2:List (I_Term)):spec_Norm.l0.raw k x0 x6 b3_0 b3_1 b3_2 b4_0 b4_1 b5_0 b5_1 b5_2=spec_Norm.l0 (k+1) x0 x6 b3_0 b3_1 b3_2 b4_0 b4_1 b5_0 b5_1 b5_2:=by
 rw [spec_Norm.l0.raw,spec_Norm.l0]
 simp only [wr_i64]
 exact ite_congr rfl (fun h0=>ite_congr rfl (fun h1=>Eq.trans (if_pos h0) (bind_cg fun t1=>(bind_cg fun t2=>(Eq.trans (ite_nb _ _ _) (ite_congr rfl (fun h2=>ite_ng _ _) (fun h2=>rfl)))))) (fun h1=>rfl)) (fun h0=>rfl)
theorem spec_Norm.l0.chk (k:Nat) (x:TupT ST [.lst (.st 0),.int .i64,.int .i64,.int .i64,.lst (.st 1),.int .i64,.int .i64,.int .i64,.int .i64,.lst (.st 1)]):runU TT (calF [] (spec_Norm.ents k)) (jmps spec_Norm.us k) (finK Tryz.f263 (retK TT (.agg 3) [.int .i64,.int .i64,.lst (.st 1)])) Tryz.f263 (some 3) (canonC spec_Norm.l0.c x)=spec_Norm.l0 (k+1) x.1 x.2.1 x.2.2.1 x.2.2.2.1 x.2.2.2.2.1 x.2.2.2.2.2.1 x.2.2.2.2.2.2.1 x.2.2.2.2.2.2.2.1 x.2.2.2.2.2.2.2.2.1 x.2.2.2.2.2.2.2.2.2:=Eq.trans (show _=spec_Norm.l0.raw k x.1 x.2.1 x.2.2.1 x.2.2.2.1 x.2.2.2.2.1 x.2.2.2.2.2.1 x.2.2.2.2.2.2.1 x.2.2.2.2.2.2.2.1 x.2.2.2.2.2.2.2.2.1 x.2.2.2.2.2.2.2.2.2 by kernel_rfl) (spec_Norm.l0.clean k x.1 x.2.1 x.2.2.1 x.2.2.2.1 x.2.2.2.2.1 x.2.2.2.2.2.1 x.2.2.2.2.2.2.1 x.2.2.2.2.2.2.2.1 x.2.2.2.2.2.2.2.2.1 x.2.2.2.2.2.2.2.2.2)
noncomputable def spec_Norm.l1.raw (k:Nat) (x0:List (I_Sym)) (x6:Int) (x8:Int) (b3_0:Int) (b3_1:Int) (b3_2:List (I_Term)) (b4_0:Int) (b4_1:Int) (b5_0:Int) (b5_1:Int) (b5_2:List (I_Term)) (b7_0:Int) (b7_1:Int) (b7_2:List (I_Term)):Option (Int×Int×(List (I_Term))):=if x8<(b7_2.length:Int) then (if 0≤x8 then (if x8<(b7_2.length:Int) then ((fQ33.f k b5_2 ((rd_I_Term b7_2 x8).f0) ((rd_I_Term b7_2 x8).f1) ((rd_I_Term b7_2 x8).f2)).bind fun t4=>(spec_Norm.l1 k x0 x6 (wr .i64 (x8+1)) b3_0 b3_1 b3_2 b4_0 b4_1 b5_0 b5_1 t4 b7_0 b7_1 b7_2)) else none) else none) else (spec_Norm.l0 k x0 (wr .i64 (x6+1)) b3_0 b3_1 b3_2 b4_0 b4_1 b5_0 b5_1 b5_2)
theorem spec_Norm.l1.clean (k:Nat) (x0:List (I_Sym)) (x6:Int) (x8:Int) (b3_0:Int) (b3_1:Int) (b3_2:List (I_Term)) (b4_0:Int) (b4_1:Int) (b5_0:Int) (b5_1:Int) (b5_2:List (I_Term)) (b7_0:Int) (b7_1:Int) (b7_2:List (I_Term)):spec_Norm.l1.raw k x0 x6 x8 b3_0 b3_1 b3_2 b4_0 b4_1 b5_0 b5_1 b5_2 b7_0 b7_1 b7_2=spec_Norm.l1 (k+1) x0 x6 x8 b3_0 b3_1 b3_2 b4_0 b4_1 b5_0 b5_1 b5_2 b7_0 b7_1 b7_2:=by
 rw [spec_Norm.l1.raw,spec_Norm.l1]
 simp only [wr_i64]
 exact ite_congr rfl (fun h0=>ite_congr rfl (fun h1=>if_pos h0) (fun h1=>rfl)) (fun h0=>rfl)
theorem spec_Norm.l1.chk (k:Nat) (x:TupT ST [.lst (.st 0),.int .i64,.int .i64,.int .i64,.int .i64,.lst (.st 1),.int .i64,.int .i64,.int .i64,.int .i64,.int .i64,.int .i64,.lst (.st 1),.lst (.st 1)]):runU TT (calF [] (spec_Norm.ents k)) (jmps spec_Norm.us k) (finK Tryz.f263 (retK TT (.agg 3) [.int .i64,.int .i64,.lst (.st 1)])) Tryz.f263 (some 7) (canonC spec_Norm.l1.c x)=spec_Norm.l1 (k+1) x.1 x.2.1 x.2.2.1 x.2.2.2.1 x.2.2.2.2.1 x.2.2.2.2.2.1 x.2.2.2.2.2.2.1 x.2.2.2.2.2.2.2.1 x.2.2.2.2.2.2.2.2.1 x.2.2.2.2.2.2.2.2.2.1 x.2.2.2.2.2.2.2.2.2.2.2.2.2 x.2.2.2.2.2.2.2.2.2.2.1 x.2.2.2.2.2.2.2.2.2.2.2.1 x.2.2.2.2.2.2.2.2.2.2.2.2.1:=Eq.trans (show _=spec_Norm.l1.raw k x.1 x.2.1 x.2.2.1 x.2.2.2.1 x.2.2.2.2.1 x.2.2.2.2.2.1 x.2.2.2.2.2.2.1 x.2.2.2.2.2.2.2.1 x.2.2.2.2.2.2.2.2.1 x.2.2.2.2.2.2.2.2.2.1 x.2.2.2.2.2.2.2.2.2.2.2.2.2 x.2.2.2.2.2.2.2.2.2.2.1 x.2.2.2.2.2.2.2.2.2.2.2.1 x.2.2.2.2.2.2.2.2.2.2.2.2.1 by kernel_rfl) (spec_Norm.l1.clean k x.1 x.2.1 x.2.2.1 x.2.2.2.1 x.2.2.2.2.1 x.2.2.2.2.2.1 x.2.2.2.2.2.2.1 x.2.2.2.2.2.2.2.1 x.2.2.2.2.2.2.2.2.1 x.2.2.2.2.2.2.2.2.2.1 x.2.2.2.2.2.2.2.2.2.2.2.2.2 x.2.2.2.2.2.2.2.2.2.2.1 x.2.2.2.2.2.2.2.2.2.2.2.1 x.2.2.2.2.2.2.2.2.2.2.2.2.1)
theorem spec_Norm.chk (k:Nat) (x:TupT ST [.lst (.st 0),.int .i64,.int .i64,.lst (.st 1)]):runU TT (calF [] (spec_Norm.ents k)) (jmps spec_Norm.us k) (finK Tryz.f263 (retK TT (.agg 3) [.int .i64,.int .i64,.lst (.st 1)])) Tryz.f263 none (canon (args0 0 (argL [.one,.agg 3] [.lst (.st 0),.int .i64,.int .i64,.lst (.st 1)] x)) [])=spec_Norm.f (k+1) x.1 x.2.1 x.2.2.1 x.2.2.2:=by kernel_rfl
theorem spec_Norm.grp:∀k:Nat,EachU (EntOk Tryz.prog TT) [spec_Norm.ent k]∧EachU (Ent2Ok Tryz.prog TT) []:=by
 intro k
 induction k using Nat.strongRecOn with
 | ind k ih=>
  exact And.intro (And.intro (fun_in tbl mixed 263 Tryz.f263 Tryz.func263 rfl (by kernel_rfl) [.one,.agg 3] [.lst (.st 0),.int .i64,.int .i64,.lst (.st 1)] (.agg 3) [.int .i64,.int .i64,.lst (.st 1)] (by kernel_rfl) [] spec_Norm.ents spec_Norm.us (And.intro (fun _=>rfl) (And.intro (fun _=>rfl) True.intro)) (And.intro spec_Norm.l0.chk (And.intro spec_Norm.l1.chk True.intro)) (fun k (x:TupT ST [.lst (.st 0),.int .i64,.int .i64,.lst (.st 1)])=>spec_Norm.f k x.1 x.2.1 x.2.2.1 x.2.2.2) (fun _=>rfl) spec_Norm.chk k (fun j h=>EntsOk.mk (And.intro (ih j h).1.1 (And.intro fQ79.ok True.intro)) (And.intro (fQ33.ok j) True.intro) True.intro)) True.intro) True.intro
theorem spec_Norm.ok (k:Nat):EntOk Tryz.prog TT (spec_Norm.ent k):=(spec_Norm.grp k).1.1
noncomputable def fQ80.f (k:Nat) (l0:List (I_Sym)) (a1:Bool) (a2_0:Int) (a2_1:Int) (l2_2:List (I_Term)) (a3_0:Int) (a3_1:Int) (l3_2:List (I_Term)):Option (Bool×Int×Int×(List (I_Term))×Int×Int×(List (I_Term))):=(spec_Norm.f k l0 a2_0 a2_1 l2_2).bind fun t1=>((spec_Norm.f k l0 a3_0 a3_1 l3_2).bind fun t2=>((fQ32.f k t1.1 t1.2.1 t1.2.2 t2.1 t2.2.1 t2.2.2).bind fun t3=>(if t3=true then (some (a1,t2.1,t2.2.1,t2.2.2,t1.1,t1.2.1,t1.2.2)) else (some (a1,t1.1,t1.2.1,t1.2.2,t2.1,t2.2.1,t2.2.2)))))
@[reducible] noncomputable def fQ80.us:List (CutU TT (TupT ST [.bool,.int .i64,.int .i64,.lst (.st 1),.int .i64,.int .i64,.lst (.st 1)])):=[]
noncomputable def fQ80.ent (k:Nat):Ent TT:=⟨185,[.one,.one,.agg 3,.agg 3],[.lst (.st 0),.bool,.int .i64,.int .i64,.lst (.st 1),.int .i64,.int .i64,.lst (.st 1)],.agg 7,[.bool,.int .i64,.int .i64,.lst (.st 1),.int .i64,.int .i64,.lst (.st 1)],fun x=>fQ80.f k x.1 x.2.1 x.2.2.1 x.2.2.2.1 x.2.2.2.2.1 x.2.2.2.2.2.1 x.2.2.2.2.2.2.1 x.2.2.2.2.2.2.2⟩
noncomputable def fQ80.ents (k:Nat):Ents TT:=⟨[spec_Norm.ent k,fQ32.ent k],[],[]⟩
theorem fQ80.chk (k:Nat) (x:TupT ST [.lst (.st 0),.bool,.int .i64,.int .i64,.lst (.st 1),.int .i64,.int .i64,.lst (.st 1)]):runU TT (calF [] (fQ80.ents k)) (jmps fQ80.us k) (finK Tryz.f185 (retK TT (.agg 7) [.bool,.int .i64,.int .i64,.lst (.st 1),.int .i64,.int .i64,.lst (.st 1)])) Tryz.f185 none (canon (args0 0 (argL [.one,.one,.agg 3,.agg 3] [.lst (.st 0),.bool,.int .i64,.int .i64,.lst (.st 1),.int .i64,.int .i64,.lst (.st 1)] x)) [])=fQ80.f k x.1 x.2.1 x.2.2.1 x.2.2.2.1 x.2.2.2.2.1 x.2.2.2.2.2.1 x.2.2.2.2.2.2.1 x.2.2.2.2.2.2.2:=by kernel_rfl
theorem fQ80.ok (k:Nat):EntOk Tryz.prog TT (fQ80.ent k):=
 fun_of tbl mixed 185 Tryz.f185 Tryz.func185 rfl (by kernel_rfl) [.one,.one,.agg 3,.agg 3] [.lst (.st 0),.bool,.int .i64,.int .i64,.lst (.st 1),.int .i64,.int .i64,.lst (.st 1)] (.agg 7) [.bool,.int .i64,.int .i64,.lst (.st 1),.int .i64,.int .i64,.lst (.st 1)] (by kernel_rfl) [] fQ80.ents fQ80.us True.intro True.intro (fun k (x:TupT ST [.lst (.st 0),.bool,.int .i64,.int .i64,.lst (.st 1),.int .i64,.int .i64,.lst (.st 1)])=>fQ80.f k x.1 x.2.1 x.2.2.1 x.2.2.2.1 x.2.2.2.2.1 x.2.2.2.2.2.1 x.2.2.2.2.2.2.1 x.2.2.2.2.2.2.2) fQ80.chk (fun k=>EntsOk.mk (And.intro (spec_Norm.ok k) (And.intro (fQ32.ok k) True.intro)) True.intro True.intro) k
end
end Go.Proofs.YtggmgmkhohmfiaaGreat.PE
