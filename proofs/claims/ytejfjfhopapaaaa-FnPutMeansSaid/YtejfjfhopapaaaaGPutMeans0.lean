import Derived.Test.YtejfjfhopapaaaaProg
import Derived.Test.YtejfjfhopapaaaaPEc
namespace Go.Proofs.Ytejfjfhopapaaaa.PE
noncomputable section
open Go Go.RowKit Go.Proofs Go.WideShapes Go.ChangeShapes
set_option linter.unusedVariables false
def rd (xs:List Int) (i:Int):Int:=xs.getD i.toNat 0
def rd_Ls_i64 (xs:List (List Int)) (i:Int):List Int:=xs.getD i.toNat []
theorem bind_cg {α β:Type} {o:Option α} {f g:α→Option β} (h:∀x,f x=g x):o.bind f=o.bind g:=by rw [funext h]
theorem ite_ng {α:Type} {p:Prop} [Decidable p] (a b:α):(if ¬p then a else b)=if p then b else a:=by by_cases h:p <;> simp [h]
theorem ite_nb {α:Type} (c:Bool) (a b:α):(if (!c)=true then a else b)=if c=true then b else a:=by cases c <;> rfl
def rdOf {α:Type} (z:α) (xs:List α) (i:Int):α:=xs.getD i.toNat z
structure I_Sym where
 f0:ByteArray
 f1:Int
 f2:Bool
noncomputable def zI_Sym:I_Sym:=⟨⟨#[]⟩,0,false⟩
noncomputable def rd_I_Sym (xs:List I_Sym) (i:Int):I_Sym:=xs.getD i.toNat zI_Sym
structure I_Model where
 f0:List (List (Int))
noncomputable def zI_Model:I_Model:=⟨[]⟩
noncomputable def rd_I_Model (xs:List I_Model) (i:Int):I_Model:=xs.getD i.toNat zI_Model
structure S_l1Cur where
 f0:List (Int)
 f1:Int
 f2:Int
noncomputable def zS_l1Cur:S_l1Cur:=⟨[],0,0⟩
noncomputable def rd_S_l1Cur (xs:List S_l1Cur) (i:Int):S_l1Cur:=xs.getD i.toNat zS_l1Cur
structure I_Term where
 f0:Int
 f1:Int
 f2:List (I_Term)
noncomputable def zI_Term:I_Term:=⟨0,0,[]⟩
noncomputable def rd_I_Term (xs:List I_Term) (i:Int):I_Term:=xs.getD i.toNat zI_Term
structure A2_i64 where
 f0:Int
 f1:Int
noncomputable def zA2_i64:A2_i64:=⟨0,0⟩
noncomputable def rd_A2_i64 (xs:List A2_i64) (i:Int):A2_i64:=xs.getD i.toNat zA2_i64
structure I_World where
 f0:Int
 f1:List (List (Int))
noncomputable def zI_World:I_World:=⟨0,[]⟩
noncomputable def rd_I_World (xs:List I_World) (i:Int):I_World:=xs.getD i.toNat zI_World
structure I_Bind where
 f0:Int
 f1:I_Term
noncomputable def zI_Bind:I_Bind:=⟨0,⟨0,0,[]⟩⟩
noncomputable def rd_I_Bind (xs:List I_Bind) (i:Int):I_Bind:=xs.getD i.toNat zI_Bind
structure TyZ where
 α:Type
 z:α
noncomputable def T0:Nat→TyZ
 | 0=>⟨I_Sym,zI_Sym⟩
 | 1=>⟨I_Model,zI_Model⟩
 | 2=>⟨S_l1Cur,zS_l1Cur⟩
 | 3=>⟨I_Term,zI_Term⟩
 | 4=>⟨A2_i64,zA2_i64⟩
 | 5=>⟨I_World,zI_World⟩
 | 6=>⟨I_Bind,zI_Bind⟩
 | _+7=>⟨Unit,()⟩
@[reducible] noncomputable def E_I_Sym:E:=.st 0
@[reducible] noncomputable def E_I_Model:E:=.st 1
@[reducible] noncomputable def E_S_l1Cur:E:=.st 2
@[reducible] noncomputable def E_I_Term:E:=.st 3
@[reducible] noncomputable def E_A2_i64:E:=.st 4
@[reducible] noncomputable def E_I_World:E:=.st 5
@[reducible] noncomputable def E_I_Bind:E:=.st 6
noncomputable def ST (s:Nat):Type:=(T0 s).α
noncomputable def cellsS:(s:Nat)→ST s→List (Dyn ST)
 | 0=>fun (x:I_Sym)=>[.str x.f0,.int .i64 x.f1,.bool x.f2]
 | 1=>fun (x:I_Model)=>[.lst (.lst (.int .i64)) x.f0]
 | 2=>fun (x:S_l1Cur)=>[.lst (.int .u8) x.f0,.int .i64 x.f1,.int .i64 x.f2]
 | 3=>fun (x:I_Term)=>[.int .i64 x.f0,.int .i64 x.f1,.lst (.st 3) x.f2]
 | 4=>fun (x:A2_i64)=>[.int .i64 x.f0,.int .i64 x.f1]
 | 5=>fun (x:I_World)=>[.int .i64 x.f0,.lst (.lst (.int .i64)) x.f1]
 | 6=>fun (x:I_Bind)=>[.int .i64 x.f0,.int .i64 x.f1.f0,.int .i64 x.f1.f1,.lst (.st 3) x.f1.f2]
 | _+7=>fun _=>[]
noncomputable def mkS:(s:Nat)→List (Dyn ST)→Option (ST s)
 | 0=>fun l=>match l with | [.str c0,.int .i64 c1,.bool c2]=>some (⟨c0,c1,c2⟩:I_Sym) | _=>none
 | 1=>fun l=>match l with | [c0]=>(match lstD ST (.lst (.int .i64)) c0 with | some d0=>some (⟨d0⟩:I_Model) | none=>none) | _=>none
 | 2=>fun l=>match l with | [c0,.int .i64 c1,.int .i64 c2]=>(match lstD ST (.int .u8) c0 with | some d0=>some (⟨d0,c1,c2⟩:S_l1Cur) | none=>none) | _=>none
 | 3=>fun l=>match l with | [.int .i64 c0,.int .i64 c1,c2]=>(match lstD ST (.st 3) c2 with | some d2=>some (⟨c0,c1,d2⟩:I_Term) | none=>none) | _=>none
 | 4=>fun l=>match l with | [.int .i64 c0,.int .i64 c1]=>some (⟨c0,c1⟩:A2_i64) | _=>none
 | 5=>fun l=>match l with | [.int .i64 c0,c1]=>(match lstD ST (.lst (.int .i64)) c1 with | some d1=>some (⟨c0,d1⟩:I_World) | none=>none) | _=>none
 | 6=>fun l=>match l with | [.int .i64 c0,.int .i64 c1,.int .i64 c2,c3]=>(match lstD ST (.st 3) c3 with | some d3=>some (⟨c0,⟨c1,c2,d3⟩⟩:I_Bind) | none=>none) | _=>none
 | _+7=>fun _=>none
noncomputable def szS_:Nat→Nat
 | 0=>3
 | 1=>1
 | 2=>3
 | 3=>3
 | 4=>2
 | 5=>2
 | 6=>4
 | _+7=>0
noncomputable def etys:List (Nat×E):=[(3,.int .i64),(4,.bool),(5,.int .u8),(9,.str),(28,.lst (.st 3)),(33,.st 3),(42,.lst (.int .u8)),(44,.lst (.st 0)),(45,.lst (.lst (.int .i64))),(47,.st 5),(52,.lst (.int .i64)),(84,.st 1),(101,.lst (.st 6)),(107,.st 6),(163,.st 0),(230,.st 2),(242,.st 4),(243,.lst (.st 4)),(265,.int .u64)]
noncomputable def lays:List (Nat×Nat):=[(3,1),(4,1),(5,1),(9,1),(28,1),(33,5),(42,1),(44,1),(45,1),(47,4),(52,1),(84,3),(101,1),(107,6),(163,5),(230,5),(242,4),(243,1),(265,1)]
noncomputable def flds:List (Nat×List Nat):=[(33,[0,1,2]),(47,[0,1]),(84,[0]),(107,[0,1]),(163,[0,1,2]),(230,[0,1,2])]
noncomputable def plcs:List (Nat×List (Nat×Nat)):=[(33,[(0,1),(1,1),(2,1)]),(47,[(0,1),(1,1)]),(84,[(0,1)]),(107,[(0,1),(1,3)]),(163,[(0,1),(1,1),(2,1)]),(230,[(0,1),(1,1),(2,1)]),(242,[(0,1),(1,1)])]
noncomputable def eqts:List (Nat×List E):=[(163,[.str,.int .i64,.bool])]
noncomputable def arrs:List Nat:=[242]
@[reducible] noncomputable def maxRow:Nat:=1099511627776
noncomputable def strs:E→Bool:=fun e=>match e with | .int .u8=>false | .int _=>true | _=>true
@[reducible] noncomputable def TT:Tbl:=mkT ST (fun s=>(T0 s).z) cellsS mkS szS_ etys lays flds plcs eqts arrs maxRow strs
theorem cells_len_:(s:Nat)→(x:ST s)→(cellsS s x).length=szS_ s
 | 0,_=>rfl
 | 1,_=>rfl
 | 2,_=>rfl
 | 3,_=>rfl
 | 4,_=>rfl
 | 5,_=>rfl
 | 6,_=>rfl
 | _+7,_=>rfl
theorem mk_cells_:(s:Nat)→(l:List (Dyn ST))→(x:ST s)→mkS s l=some x→DLes (T:=TT) l (cellsS s x)
 | 0,l,x,h=>by
  simp only [mkS] at h
  repeat' (split at h)
  all_goals first | (cases h;done) | (obtain rfl:=Option.some.inj h;repeat' first | exact DLes.nil | refine DLes.cons ?_ ?_ | exact Or.inl rfl | exact lstD_ok (T:=TT) (by assumption))
 | 1,l,x,h=>by
  simp only [mkS] at h
  repeat' (split at h)
  all_goals first | (cases h;done) | (obtain rfl:=Option.some.inj h;repeat' first | exact DLes.nil | refine DLes.cons ?_ ?_ | exact Or.inl rfl | exact lstD_ok (T:=TT) (by assumption))
 | 2,l,x,h=>by
  simp only [mkS] at h
  repeat' (split at h)
  all_goals first | (cases h;done) | (obtain rfl:=Option.some.inj h;repeat' first | exact DLes.nil | refine DLes.cons ?_ ?_ | exact Or.inl rfl | exact lstD_ok (T:=TT) (by assumption))
 | 3,l,x,h=>by
  simp only [mkS] at h
  repeat' (split at h)
  all_goals first | (cases h;done) | (obtain rfl:=Option.some.inj h;repeat' first | exact DLes.nil | refine DLes.cons ?_ ?_ | exact Or.inl rfl | exact lstD_ok (T:=TT) (by assumption))
 | 4,l,x,h=>by
  simp only [mkS] at h
  repeat' (split at h)
  all_goals first | (cases h;done) | (obtain rfl:=Option.some.inj h;repeat' first | exact DLes.nil | refine DLes.cons ?_ ?_ | exact Or.inl rfl | exact lstD_ok (T:=TT) (by assumption))
 | 5,l,x,h=>by
  simp only [mkS] at h
  repeat' (split at h)
  all_goals first | (cases h;done) | (obtain rfl:=Option.some.inj h;repeat' first | exact DLes.nil | refine DLes.cons ?_ ?_ | exact Or.inl rfl | exact lstD_ok (T:=TT) (by assumption))
 | 6,l,x,h=>by
  simp only [mkS] at h
  repeat' (split at h)
  all_goals first | (cases h;done) | (obtain rfl:=Option.some.inj h;repeat' first | exact DLes.nil | refine DLes.cons ?_ ?_ | exact Or.inl rfl | exact lstD_ok (T:=TT) (by assumption))
 | _+7,_,_,h=>by cases h
theorem kin_:(s:Nat)→(x:ST s)→SK (T:=TT) (cellsS s x) (cellsS s (T0 s).z)
 | 0,_=>SK.cons trivial (SK.cons rfl (SK.cons trivial (SK.nil)))
 | 1,_=>SK.cons rfl (SK.nil)
 | 2,_=>SK.cons rfl (SK.cons rfl (SK.cons rfl (SK.nil)))
 | 3,_=>SK.cons rfl (SK.cons rfl (SK.cons rfl (SK.nil)))
 | 4,_=>SK.cons rfl (SK.cons rfl (SK.nil))
 | 5,_=>SK.cons rfl (SK.cons rfl (SK.nil))
 | 6,_=>SK.cons rfl (SK.cons rfl (SK.cons rfl (SK.cons rfl (SK.nil))))
 | _+7,_=>SK.nil
theorem mkx_:(s:Nat)→(l:List (Dyn ST))→SK (T:=TT) l (cellsS s (T0 s).z)→∃y,cellsS s y=l
 | 0,l,h0=>by
  obtain ⟨c0,l0,rfl,h1⟩:=SK.str (T:=TT) h0
  obtain ⟨c1,l1,rfl,h2⟩:=SK.int (T:=TT) h1
  obtain ⟨c2,l2,rfl,h3⟩:=SK.bool (T:=TT) h2
  obtain rfl:=SK.inv0 h3
  exact ⟨(⟨c0,c1,c2⟩:I_Sym),rfl⟩
 | 1,l,h0=>by
  obtain ⟨c0,l0,rfl,h1⟩:=SK.lst (T:=TT) h0
  obtain rfl:=SK.inv0 h1
  exact ⟨(⟨c0⟩:I_Model),rfl⟩
 | 2,l,h0=>by
  obtain ⟨c0,l0,rfl,h1⟩:=SK.lst (T:=TT) h0
  obtain ⟨c1,l1,rfl,h2⟩:=SK.int (T:=TT) h1
  obtain ⟨c2,l2,rfl,h3⟩:=SK.int (T:=TT) h2
  obtain rfl:=SK.inv0 h3
  exact ⟨(⟨c0,c1,c2⟩:S_l1Cur),rfl⟩
 | 3,l,h0=>by
  obtain ⟨c0,l0,rfl,h1⟩:=SK.int (T:=TT) h0
  obtain ⟨c1,l1,rfl,h2⟩:=SK.int (T:=TT) h1
  obtain ⟨c2,l2,rfl,h3⟩:=SK.lst (T:=TT) h2
  obtain rfl:=SK.inv0 h3
  exact ⟨(⟨c0,c1,c2⟩:I_Term),rfl⟩
 | 4,l,h0=>by
  obtain ⟨c0,l0,rfl,h1⟩:=SK.int (T:=TT) h0
  obtain ⟨c1,l1,rfl,h2⟩:=SK.int (T:=TT) h1
  obtain rfl:=SK.inv0 h2
  exact ⟨(⟨c0,c1⟩:A2_i64),rfl⟩
 | 5,l,h0=>by
  obtain ⟨c0,l0,rfl,h1⟩:=SK.int (T:=TT) h0
  obtain ⟨c1,l1,rfl,h2⟩:=SK.lst (T:=TT) h1
  obtain rfl:=SK.inv0 h2
  exact ⟨(⟨c0,c1⟩:I_World),rfl⟩
 | 6,l,h0=>by
  obtain ⟨c0,l0,rfl,h1⟩:=SK.int (T:=TT) h0
  obtain ⟨c1,l1,rfl,h2⟩:=SK.int (T:=TT) h1
  obtain ⟨c2,l2,rfl,h3⟩:=SK.int (T:=TT) h2
  obtain ⟨c3,l3,rfl,h4⟩:=SK.lst (T:=TT) h3
  obtain rfl:=SK.inv0 h4
  exact ⟨(⟨c0,⟨c1,c2,c3⟩⟩:I_Bind),rfl⟩
 | _+7,l,h=>⟨(),(SK.inv0 h).symm⟩
theorem tbl:TblOk Try.prog TT:=tbl_ok (by kernel_rfl) (by kernel_rfl) (by kernel_rfl) (by kernel_rfl) (by kernel_rfl) (by kernel_rfl) cells_len_ mk_cells_ kin_ mkx_
theorem mixed:Try.prog.follows .mixedOrders=true:=by kernel_rfl
noncomputable def laws_big.f (l0:List (Int)):Option (Bool):=some (decide ((l0.length:Int)>1048576))
@[reducible] noncomputable def laws_big.us:List (CutU TT (TupT ST [.bool])):=[]
noncomputable def laws_big.ent:Ent TT:=⟨28,[.one],[.lst (.int .u8)],.one,[.bool],fun x=>laws_big.f x⟩
noncomputable def laws_big.ents (k:Nat):Ents TT:=⟨[],[],[]⟩
theorem laws_big.chk (k:Nat) (x:TupT ST [.lst (.int .u8)]):runU TT (calF [] (laws_big.ents k)) (jmps laws_big.us k) (finK Try.f28 (retK TT (.one) [.bool])) Try.f28 none (canon (args0 0 (argL [.one] [.lst (.int .u8)] x)) [])=laws_big.f x:=by kernel_rfl
theorem laws_big.ok:EntOk Try.prog TT (laws_big.ent):=
 fun_of tbl mixed 28 Try.f28 Try.func28 rfl (by kernel_rfl) [.one] [.lst (.int .u8)] (.one) [.bool] (by kernel_rfl) [] laws_big.ents laws_big.us True.intro True.intro (fun k (x:TupT ST [.lst (.int .u8)])=>laws_big.f x) laws_big.chk (fun k=>EntsOk.mk True.intro True.intro True.intro) 0
noncomputable def fQ59.f:Option ((List (I_Sym))):=some ([⟨(⟨#[116,116]⟩:ByteArray),0,false⟩,⟨(⟨#[97]⟩:ByteArray),0,false⟩,⟨(⟨#[98]⟩:ByteArray),0,false⟩,⟨(⟨#[103]⟩:ByteArray),1,false⟩,⟨(⟨#[104]⟩:ByteArray),2,false⟩,⟨(⟨#[102]⟩:ByteArray),2,true⟩,⟨(⟨#[107]⟩:ByteArray),2,true⟩]:List (I_Sym))
@[reducible] noncomputable def fQ59.us:List (CutU TT (TupT ST [.lst (.st 0)])):=[]
noncomputable def fQ59.ent:Ent TT:=⟨115,[],[],.one,[.lst (.st 0)],fun x=>fQ59.f⟩
noncomputable def fQ59.ents (k:Nat):Ents TT:=⟨[],[],[]⟩
theorem fQ59.chk (k:Nat) (x:TupT ST []):runU TT (calF [] (fQ59.ents k)) (jmps fQ59.us k) (finK Try.f115 (retK TT (.one) [.lst (.st 0)])) Try.f115 none (canon (args0 0 (argL [] [] x)) [])=fQ59.f:=by kernel_rfl
theorem fQ59.ok:EntOk Try.prog TT (fQ59.ent):=
 fun_of tbl mixed 115 Try.f115 Try.func115 rfl (by kernel_rfl) [] [] (.one) [.lst (.st 0)] (by kernel_rfl) [] fQ59.ents fQ59.us True.intro True.intro (fun k (x:TupT ST [])=>fQ59.f) fQ59.chk (fun k=>EntsOk.mk True.intro True.intro True.intro) 0
noncomputable def fQ69.f (a0:Int) (a1:Int):Option (Int):=if a0>a1 then (some a0) else (some a1)
@[reducible] noncomputable def fQ69.us:List (CutU TT (TupT ST [.int .i64])):=[]
noncomputable def fQ69.ent:Ent TT:=⟨127,[.one,.one],[.int .i64,.int .i64],.one,[.int .i64],fun x=>fQ69.f x.1 x.2⟩
noncomputable def fQ69.ents (k:Nat):Ents TT:=⟨[],[],[]⟩
theorem fQ69.chk (k:Nat) (x:TupT ST [.int .i64,.int .i64]):runU TT (calF [] (fQ69.ents k)) (jmps fQ69.us k) (finK Try.f127 (retK TT (.one) [.int .i64])) Try.f127 none (canon (args0 0 (argL [.one,.one] [.int .i64,.int .i64] x)) [])=fQ69.f x.1 x.2:=by kernel_rfl
theorem fQ69.ok:EntOk Try.prog TT (fQ69.ent):=
 fun_of tbl mixed 127 Try.f127 Try.func127 rfl (by kernel_rfl) [.one,.one] [.int .i64,.int .i64] (.one) [.int .i64] (by kernel_rfl) [] fQ69.ents fQ69.us True.intro True.intro (fun k (x:TupT ST [.int .i64,.int .i64])=>fQ69.f x.1 x.2) fQ69.chk (fun k=>EntsOk.mk True.intro True.intro True.intro) 0
noncomputable def fQ70.f (a0:Int) (a1:Int):Option (Int):=if a0<a1 then (some a0) else (some a1)
@[reducible] noncomputable def fQ70.us:List (CutU TT (TupT ST [.int .i64])):=[]
noncomputable def fQ70.ent:Ent TT:=⟨133,[.one,.one],[.int .i64,.int .i64],.one,[.int .i64],fun x=>fQ70.f x.1 x.2⟩
noncomputable def fQ70.ents (k:Nat):Ents TT:=⟨[],[],[]⟩
theorem fQ70.chk (k:Nat) (x:TupT ST [.int .i64,.int .i64]):runU TT (calF [] (fQ70.ents k)) (jmps fQ70.us k) (finK Try.f133 (retK TT (.one) [.int .i64])) Try.f133 none (canon (args0 0 (argL [.one,.one] [.int .i64,.int .i64] x)) [])=fQ70.f x.1 x.2:=by kernel_rfl
theorem fQ70.ok:EntOk Try.prog TT (fQ70.ent):=
 fun_of tbl mixed 133 Try.f133 Try.func133 rfl (by kernel_rfl) [.one,.one] [.int .i64,.int .i64] (.one) [.int .i64] (by kernel_rfl) [] fQ70.ents fQ70.us True.intro True.intro (fun k (x:TupT ST [.int .i64,.int .i64])=>fQ70.f x.1 x.2) fQ70.chk (fun k=>EntsOk.mk True.intro True.intro True.intro) 0
noncomputable def fQ23.l0:Nat→List (Int)→Int→Int→Option ((List (Int))×Int×Int)
 | 0,_,_,_=>none
 | k+1,x0,x3,x4=>if x4<(x0.length:Int) then (if x4<4000 then (if 0≤x4 then (fQ23.l0 k x0 (bits .and .i64 (wrap64 ((wrap64 ((wrap64 (x3*131))+(wrap64 (rd x0 x4))))+7)) 1073741823) (wrap64 (x4+1))) else none) else (some (x0,0,x3))) else (some (x0,0,x3))
noncomputable def fQ23.f (k:Nat) (l0:List (Int)):Option ((List (Int))×Int×Int):=fQ23.l0 k l0 (wrap64 (27064+(l0.length:Int))) 0
noncomputable def fQ23.pin:Cut:=⟨[0],[],[(0,.one)],[],[],[.lst (.int .u8)]⟩
noncomputable def fQ23.pout:Cut:=⟨[],[(31,0)],[(2,.ptr 31 0)],[(31,[.one,.one,.one])],[],[.lst (.int .u8),.int .i64,.int .i64]⟩
noncomputable def fQ23.l0.c:Cut:=⟨[0],[],[(0,.one),(3,.one),(4,.one)],[],[],[.lst (.int .u8),.int .i64,.int .i64]⟩
@[reducible] noncomputable def fQ23.us:List (CutU TT (TupT ST fQ23.pout.es)):=[⟨3,fQ23.l0.c,fun k x=>fQ23.l0 k x.1 x.2.1 x.2.2⟩]
noncomputable def fQ23.ent (k:Nat):Ent2 TT:=⟨113,1,fQ23.pin,fQ23.pout,Try.f113.results.toList,fun x=>fQ23.f k x⟩
noncomputable def fQ23.ents (k:Nat):Ents TT:=⟨[],[],[]⟩
noncomputable def fQ23.l0.raw (k:Nat) (x0:List (Int)) (x3:Int) (x4:Int):Option ((List (Int))×Int×Int):=if x4<(x0.length:Int) then (if x4<4000 then (if 0≤x4 then (if x4<(x0.length:Int) then (fQ23.l0 k x0 (bits .and .i64 (wr .i64 ((wr .i64 ((wr .i64 (x3*131))+(wr .i64 (rd x0 x4))))+7)) 1073741823) (wr .i64 (x4+1))) else none) else none) else (some (x0,0,x3))) else (some (x0,0,x3))
theorem fQ23.l0.clean (k:Nat) (x0:List (Int)) (x3:Int) (x4:Int):fQ23.l0.raw k x0 x3 x4=fQ23.l0 (k+1) x0 x3 x4:=by
 rw [fQ23.l0.raw,fQ23.l0]
 simp only [wr_i64]
 exact ite_congr rfl (fun h0=>ite_congr rfl (fun h1=>ite_congr rfl (fun h2=>if_pos h0) (fun h2=>rfl)) (fun h1=>rfl)) (fun h0=>rfl)
theorem fQ23.l0.chk (k:Nat) (x:TupT ST [.lst (.int .u8),.int .i64,.int .i64]):runU TT (calF [] (fQ23.ents k)) (jmps fQ23.us k) (finC fQ23.pout Try.f113.results.toList) Try.f113 (some 3) (canonC fQ23.l0.c x)=fQ23.l0 (k+1) x.1 x.2.1 x.2.2:=Eq.trans (show _=fQ23.l0.raw k x.1 x.2.1 x.2.2 by kernel_rfl) (fQ23.l0.clean k x.1 x.2.1 x.2.2)
noncomputable def fQ23.raw (k:Nat) (l0:List (Int)):Option ((List (Int))×Int×Int):=fQ23.l0 k l0 (wr .i64 (27064+(l0.length:Int))) 0
theorem fQ23.clean (k:Nat) (l0:List (Int)):fQ23.raw k l0=fQ23.f k l0:=by
 rw [fQ23.raw,fQ23.f]
 simp only [wr_i64]
theorem fQ23.chk (k:Nat) (x:TupT ST fQ23.pin.es):runU TT (calF [] (fQ23.ents k)) (jmps fQ23.us k) (finC fQ23.pout Try.f113.results.toList) Try.f113 none (canonC fQ23.pin x)=fQ23.f k x:=Eq.trans (show _=fQ23.raw k x by kernel_rfl) (fQ23.clean k x)
theorem fQ23.ok (k:Nat):Ent2Ok Try.prog TT (fQ23.ent k):=
 fun_of2 tbl mixed 113 Try.f113 Try.func113 rfl (by kernel_rfl) 1 fQ23.pin fQ23.pout (by kernel_rfl) [] fQ23.ents fQ23.us (And.intro (fun _=>rfl) True.intro) (And.intro fQ23.l0.chk True.intro) (fun k (x:TupT ST fQ23.pin.es)=>fQ23.f k x) fQ23.chk (fun k=>EntsOk.mk True.intro True.intro True.intro) k
noncomputable def fQ30.f (c0_0:List (Int)) (c0_1:Int) (c0_2:Int):Option (Int×(List (Int))×Int×Int):=if c0_1<(c0_0.length:Int) then (if 0≤c0_1 then (some (bits .and .i64 (wrap64 ((bits .and .i64 (bits .xor .i64 (Int.fdiv (wrap64 ((wrap64 (c0_2*6364136223846793005))+1442695040888963407)) (2 ^ (min (33:Int).toNat 64))) (Int.fdiv (wrap64 ((wrap64 (c0_2*6364136223846793005))+1442695040888963407)) (2 ^ (min (45:Int).toNat 64)))) 255)+(wrap64 (rd c0_0 c0_1)))) 255,c0_0,wrap64 (c0_1+1),wrap64 ((wrap64 (c0_2*6364136223846793005))+1442695040888963407))) else none) else (some (bits .and .i64 (bits .xor .i64 (Int.fdiv (wrap64 ((wrap64 (c0_2*6364136223846793005))+1442695040888963407)) (2 ^ (min (33:Int).toNat 64))) (Int.fdiv (wrap64 ((wrap64 (c0_2*6364136223846793005))+1442695040888963407)) (2 ^ (min (45:Int).toNat 64)))) 255,c0_0,c0_1,wrap64 ((wrap64 (c0_2*6364136223846793005))+1442695040888963407)))
noncomputable def fQ30.pin:Cut:=⟨[],[(1073741824,0)],[(0,.ptr 1073741824 0)],[(1073741824,[.one,.one,.one])],[],[.lst (.int .u8),.int .i64,.int .i64]⟩
noncomputable def fQ30.pout:Cut:=⟨[],[(1073741824,0)],[(2,.one)],[(1073741824,[.one,.one,.one])],[],[.int .i64,.lst (.int .u8),.int .i64,.int .i64]⟩
@[reducible] noncomputable def fQ30.us:List (CutU TT (TupT ST fQ30.pout.es)):=[]
noncomputable def fQ30.ent:Ent2 TT:=⟨223,1,fQ30.pin,fQ30.pout,Try.f223.results.toList,fun x=>fQ30.f x.1 x.2.1 x.2.2⟩
noncomputable def fQ30.ents (k:Nat):Ents TT:=⟨[],[],[]⟩
noncomputable def fQ30.raw (k:Nat) (c0_0:List (Int)) (c0_1:Int) (c0_2:Int):Option (Int×(List (Int))×Int×Int):=if (33:Int)<0 then none else (if (45:Int)<0 then none else (if c0_1<(c0_0.length:Int) then (if 0≤c0_1 then (if c0_1<(c0_0.length:Int) then (some (bits .and .i64 (wr .i64 ((bits .and .i64 (bits .xor .i64 (Int.fdiv (wr .i64 ((wr .i64 (c0_2*6364136223846793005))+1442695040888963407)) (2 ^ (min (33:Int).toNat 64))) (Int.fdiv (wr .i64 ((wr .i64 (c0_2*6364136223846793005))+1442695040888963407)) (2 ^ (min (45:Int).toNat 64)))) 255)+(wr .i64 (rd c0_0 c0_1)))) 255,c0_0,wr .i64 (c0_1+1),wr .i64 ((wr .i64 (c0_2*6364136223846793005))+1442695040888963407))) else none) else none) else (some (bits .and .i64 (bits .xor .i64 (Int.fdiv (wr .i64 ((wr .i64 (c0_2*6364136223846793005))+1442695040888963407)) (2 ^ (min (33:Int).toNat 64))) (Int.fdiv (wr .i64 ((wr .i64 (c0_2*6364136223846793005))+1442695040888963407)) (2 ^ (min (45:Int).toNat 64)))) 255,c0_0,c0_1,wr .i64 ((wr .i64 (c0_2*6364136223846793005))+1442695040888963407)))))
theorem fQ30.clean (k:Nat) (c0_0:List (Int)) (c0_1:Int) (c0_2:Int):fQ30.raw k c0_0 c0_1 c0_2=fQ30.f c0_0 c0_1 c0_2:=by
 rw [fQ30.raw,fQ30.f]
 simp only [wr_i64]
 exact Eq.trans (if_neg (by decide)) (Eq.trans (if_neg (by decide)) (ite_congr rfl (fun h0=>ite_congr rfl (fun h1=>if_pos h0) (fun h1=>rfl)) (fun h0=>rfl)))
theorem fQ30.chk (k:Nat) (x:TupT ST fQ30.pin.es):runU TT (calF [] (fQ30.ents k)) (jmps fQ30.us k) (finC fQ30.pout Try.f223.results.toList) Try.f223 none (canonC fQ30.pin x)=fQ30.f x.1 x.2.1 x.2.2:=Eq.trans (show _=fQ30.raw k x.1 x.2.1 x.2.2 by kernel_rfl) (fQ30.clean k x.1 x.2.1 x.2.2)
theorem fQ30.ok:Ent2Ok Try.prog TT (fQ30.ent):=
 fun_of2 tbl mixed 223 Try.f223 Try.func223 rfl (by kernel_rfl) 1 fQ30.pin fQ30.pout (by kernel_rfl) [] fQ30.ents fQ30.us True.intro True.intro (fun k (x:TupT ST fQ30.pin.es)=>fQ30.f x.1 x.2.1 x.2.2) fQ30.chk (fun k=>EntsOk.mk True.intro True.intro True.intro) 0
noncomputable def fQ17.f (a1:Int) (c0_0:List (Int)) (c0_1:Int) (c0_2:Int):Option (Int×(List (Int))×Int×Int):=if a1≤0 then (some (0,c0_0,c0_1,c0_2)) else (if a1≤256 then ((fQ30.f c0_0 c0_1 c0_2).bind fun t1=>(if a1=0 then none else (some (Int.tmod t1.1 a1,t1.2.1,t1.2.2.1,t1.2.2.2)))) else ((fQ30.f c0_0 c0_1 c0_2).bind fun t2=>((fQ30.f t2.2.1 t2.2.2.1 t2.2.2.2).bind fun t3=>((fQ30.f t3.2.1 t3.2.2.1 t3.2.2.2).bind fun t4=>((fQ30.f t4.2.1 t4.2.2.1 t4.2.2.2).bind fun t5=>(if a1=0 then none else (some (Int.tmod (wrap64 ((wrap64 ((wrap64 ((wrap64 (t2.1*16777216))+(wrap64 (t3.1*65536))))+(wrap64 (t4.1*256))))+t5.1)) a1,t5.2.1,t5.2.2.1,t5.2.2.2))))))))
noncomputable def fQ17.pin:Cut:=⟨[],[(1073741824,0)],[(0,.ptr 1073741824 0),(1,.one)],[(1073741824,[.one,.one,.one])],[],[.int .i64,.lst (.int .u8),.int .i64,.int .i64]⟩
noncomputable def fQ17.pout:Cut:=⟨[],[(1073741824,0)],[(4,.one)],[(1073741824,[.one,.one,.one])],[],[.int .i64,.lst (.int .u8),.int .i64,.int .i64]⟩
@[reducible] noncomputable def fQ17.us:List (CutU TT (TupT ST fQ17.pout.es)):=[]
noncomputable def fQ17.ent:Ent2 TT:=⟨116,2,fQ17.pin,fQ17.pout,Try.f116.results.toList,fun x=>fQ17.f x.1 x.2.1 x.2.2.1 x.2.2.2⟩
noncomputable def fQ17.ents (k:Nat):Ents TT:=⟨[],[fQ30.ent],[]⟩
noncomputable def fQ17.raw (k:Nat) (a1:Int) (c0_0:List (Int)) (c0_1:Int) (c0_2:Int):Option (Int×(List (Int))×Int×Int):=if a1≤0 then (some (0,c0_0,c0_1,c0_2)) else (if a1≤256 then ((fQ30.f c0_0 c0_1 c0_2).bind fun t1=>(if a1=0 then none else (some (Int.tmod t1.1 a1,t1.2.1,t1.2.2.1,t1.2.2.2)))) else ((fQ30.f c0_0 c0_1 c0_2).bind fun t2=>((fQ30.f t2.2.1 t2.2.2.1 t2.2.2.2).bind fun t3=>((fQ30.f t3.2.1 t3.2.2.1 t3.2.2.2).bind fun t4=>((fQ30.f t4.2.1 t4.2.2.1 t4.2.2.2).bind fun t5=>(if a1=0 then none else (some (Int.tmod (wr .i64 ((wr .i64 ((wr .i64 ((wr .i64 (t2.1*16777216))+(wr .i64 (t3.1*65536))))+(wr .i64 (t4.1*256))))+t5.1)) a1,t5.2.1,t5.2.2.1,t5.2.2.2))))))))
theorem fQ17.clean (k:Nat) (a1:Int) (c0_0:List (Int)) (c0_1:Int) (c0_2:Int):fQ17.raw k a1 c0_0 c0_1 c0_2=fQ17.f a1 c0_0 c0_1 c0_2:=by
 rw [fQ17.raw,fQ17.f]
 simp only [wr_i64]
theorem fQ17.chk (k:Nat) (x:TupT ST fQ17.pin.es):runU TT (calF [] (fQ17.ents k)) (jmps fQ17.us k) (finC fQ17.pout Try.f116.results.toList) Try.f116 none (canonC fQ17.pin x)=fQ17.f x.1 x.2.1 x.2.2.1 x.2.2.2:=Eq.trans (show _=fQ17.raw k x.1 x.2.1 x.2.2.1 x.2.2.2 by kernel_rfl) (fQ17.clean k x.1 x.2.1 x.2.2.1 x.2.2.2)
theorem fQ17.ok:Ent2Ok Try.prog TT (fQ17.ent):=
 fun_of2 tbl mixed 116 Try.f116 Try.func116 rfl (by kernel_rfl) 2 fQ17.pin fQ17.pout (by kernel_rfl) [] fQ17.ents fQ17.us True.intro True.intro (fun k (x:TupT ST fQ17.pin.es)=>fQ17.f x.1 x.2.1 x.2.2.1 x.2.2.2) fQ17.chk (fun k=>EntsOk.mk True.intro (And.intro fQ30.ok True.intro) True.intro) 0
mutual
noncomputable def fQ10.l0:Nat→List (I_Sym)→List (List (Int))→Int→List (List (Int))→List (Int)→Int→Int→Option ((List (List (Int)))×(List (Int))×Int×Int)
 | 0,_,_,_,_,_,_,_=>none
 | k+1,x1,x6,x7,b5_0,b1073741824_0,b1073741824_1,b1073741824_2=>if x7<(x1.length:Int) then (if 0≤x7 then (if ((rd_I_Sym x1 x7).f2)=true then ((fQ17.f (x6.length:Int) b1073741824_0 b1073741824_1 b1073741824_2).bind fun t1=>(if 0≤t1.1 then (if t1.1<(x6.length:Int) then (if ([]:List (Int)).length+(rd_Ls_i64 x6 t1.1).length≤1099511627776 then (if b5_0.length+([([]:List (Int))++(rd_Ls_i64 x6 t1.1)]:List (List (Int))).length≤1099511627776 then (fQ10.l0 k x1 x6 (wrap64 (x7+1)) (b5_0++([([]:List (Int))++(rd_Ls_i64 x6 t1.1)]:List (List (Int)))) t1.2.1 t1.2.2.1 t1.2.2.2) else none) else none) else none) else none)) else (fQ10.l1 k x1 x6 x7 ([]:List (Int)) 0 b5_0 b1073741824_0 b1073741824_1 b1073741824_2)) else none) else (some (b5_0,b1073741824_0,b1073741824_1,b1073741824_2))
noncomputable def fQ10.l1:Nat→List (I_Sym)→List (List (Int))→Int→List (Int)→Int→List (List (Int))→List (Int)→Int→Int→Option ((List (List (Int)))×(List (Int))×Int×Int)
 | 0,_,_,_,_,_,_,_,_,_=>none
 | k+1,x1,x6,x7,x8,x9,b5_0,b1073741824_0,b1073741824_1,b1073741824_2=>if 0≤x7 then (if x7<(x1.length:Int) then ((fQ70.f ((rd_I_Sym x1 x7).f1) 3).bind fun t2=>((fQ69.f 0 t2).bind fun t3=>(if t3<0 then none else (if x9<(wrap64 (1*2 ^ (min (t3:Int).toNat 64))) then ((fQ17.f 2 b1073741824_0 b1073741824_1 b1073741824_2).bind fun t4=>(if x8.length+([t4.1]:List (Int)).length≤1099511627776 then (fQ10.l1 k x1 x6 x7 (x8++([t4.1]:List (Int))) (wrap64 (x9+1)) b5_0 t4.2.1 t4.2.2.1 t4.2.2.2) else none)) else (if b5_0.length+([x8]:List (List (Int))).length≤1099511627776 then (fQ10.l0 k x1 x6 (wrap64 (x7+1)) (b5_0++([x8]:List (List (Int)))) b1073741824_0 b1073741824_1 b1073741824_2) else none))))) else none) else none
end
noncomputable def fQ10.f (k:Nat) (l1:List (I_Sym)) (c0_0:List (Int)) (c0_1:Int) (c0_2:Int):Option ((List (List (Int)))×(List (Int))×Int×Int):=fQ10.l0 k l1 ([([0,0,0,1]:List (Int)),([0,1,1,1]:List (Int)),([0,1,1,0]:List (Int)),([1,0,0,1]:List (Int)),([0,0,0,0]:List (Int)),([1,1,1,1]:List (Int))]:List (List (Int))) 0 [] c0_0 c0_1 c0_2
noncomputable def fQ10.pin:Cut:=⟨[1],[(1073741824,0)],[(0,.ptr 1073741824 0),(1,.one)],[(1073741824,[.one,.one,.one])],[],[.lst (.st 0),.lst (.int .u8),.int .i64,.int .i64]⟩
noncomputable def fQ10.pout:Cut:=⟨[],[(4,0),(1073741824,0)],[(4,.ptr 4 0)],[(4,[.one]),(1073741824,[.one,.one,.one])],[],[.lst (.lst (.int .i64)),.lst (.int .u8),.int .i64,.int .i64]⟩
noncomputable def fQ10.l0.c:Cut:=⟨[1],[(1073741824,0)],[(0,.ptr 1073741824 0),(1,.one),(4,.ptr 4 0),(5,.ptr 5 0),(6,.own 17),(7,.one)],[(4,[.nil]),(5,[.own 41]),(1073741824,[.one,.one,.one])],[(17,.lst (.int .i64)),(41,.lst (.int .i64))],[.lst (.st 0),.int .i64,.lst (.int .u8),.int .i64,.int .i64,.lst (.lst (.int .i64)),.lst (.lst (.int .i64))]⟩
noncomputable def fQ10.l1.c:Cut:=⟨[1],[(1073741824,0)],[(0,.ptr 1073741824 0),(1,.one),(4,.ptr 4 0),(5,.ptr 5 0),(6,.own 17),(7,.one),(8,.own 43),(9,.one)],[(4,[.nil]),(5,[.own 41]),(1073741824,[.one,.one,.one])],[(17,.lst (.int .i64)),(43,.int .i64),(41,.lst (.int .i64))],[.lst (.st 0),.int .i64,.int .i64,.lst (.int .u8),.int .i64,.int .i64,.lst (.lst (.int .i64)),.lst (.int .i64),.lst (.lst (.int .i64))]⟩
@[reducible] noncomputable def fQ10.us:List (CutU TT (TupT ST fQ10.pout.es)):=[⟨4,fQ10.l0.c,fun k x=>fQ10.l0 k x.1 x.2.2.2.2.2.1 x.2.1 x.2.2.2.2.2.2 x.2.2.1 x.2.2.2.1 x.2.2.2.2.1⟩,⟨10,fQ10.l1.c,fun k x=>fQ10.l1 k x.1 x.2.2.2.2.2.2.1 x.2.1 x.2.2.2.2.2.2.2.1 x.2.2.1 x.2.2.2.2.2.2.2.2 x.2.2.2.1 x.2.2.2.2.1 x.2.2.2.2.2.1⟩]
noncomputable def fQ10.ent (k:Nat):Ent2 TT:=⟨152,2,fQ10.pin,fQ10.pout,Try.f152.results.toList,fun x=>fQ10.f k x.1 x.2.1 x.2.2.1 x.2.2.2⟩
noncomputable def fQ10.ents (k:Nat):Ents TT:=⟨[fQ70.ent,fQ69.ent],[fQ17.ent],[]⟩
noncomputable def fQ10.l0.raw (k:Nat) (x1:List (I_Sym)) (x6:List (List (Int))) (x7:Int) (b5_0:List (List (Int))) (b1073741824_0:List (Int)) (b1073741824_1:Int) (b1073741824_2:Int):Option ((List (List (Int)))×(List (Int))×Int×Int):=if x7<(x1.length:Int) then (if 0≤x7 then (if x7<(x1.length:Int) then (if ((rd_I_Sym x1 x7).f2)=true then ((fQ17.f (x6.length:Int) b1073741824_0 b1073741824_1 b1073741824_2).bind fun t1=>(if 0≤t1.1 then (if t1.1<(x6.length:Int) then (if ([]:List (Int)).length+(rd_Ls_i64 x6 t1.1).length≤1099511627776 then (if b5_0.length+([([]:List (Int))++(rd_Ls_i64 x6 t1.1)]:List (List (Int))).length≤1099511627776 then (fQ10.l0 k x1 x6 (wr .i64 (x7+1)) (b5_0++([([]:List (Int))++(rd_Ls_i64 x6 t1.1)]:List (List (Int)))) t1.2.1 t1.2.2.1 t1.2.2.2) else none) else none) else none) else none)) else (fQ10.l1 k x1 x6 x7 ([]:List (Int)) 0 b5_0 b1073741824_0 b1073741824_1 b1073741824_2)) else none) else none) else (some (b5_0,b1073741824_0,b1073741824_1,b1073741824_2))
theorem fQ10.l0.clean (k:Nat) (x1:List (I_Sym)) (x6:List (List (Int))) (x7:Int) (b5_0:List (List (Int))) (b1073741824_0:List (Int)) (b1073741824_1:Int) (b1073741824_2:Int):fQ10.l0.raw k x1 x6 x7 b5_0 b1073741824_0 b1073741824_1 b1073741824_2=fQ10.l0 (k+1) x1 x6 x7 b5_0 b1073741824_0 b1073741824_1 b1073741824_2:=by
 rw [fQ10.l0.raw,fQ10.l0]
 simp only [wr_i64]
 exact ite_congr rfl (fun h0=>ite_congr rfl (fun h1=>if_pos h0) (fun h1=>rfl)) (fun h0=>rfl)
theorem fQ10.l0.chk (k:Nat) (x:TupT ST [.lst (.st 0),.int .i64,.lst (.int .u8),.int .i64,.int .i64,.lst (.lst (.int .i64)),.lst (.lst (.int .i64))]):runU TT (calF [] (fQ10.ents k)) (jmps fQ10.us k) (finC fQ10.pout Try.f152.results.toList) Try.f152 (some 4) (canonC fQ10.l0.c x)=fQ10.l0 (k+1) x.1 x.2.2.2.2.2.1 x.2.1 x.2.2.2.2.2.2 x.2.2.1 x.2.2.2.1 x.2.2.2.2.1:=Eq.trans (show _=fQ10.l0.raw k x.1 x.2.2.2.2.2.1 x.2.1 x.2.2.2.2.2.2 x.2.2.1 x.2.2.2.1 x.2.2.2.2.1 by kernel_rfl) (fQ10.l0.clean k x.1 x.2.2.2.2.2.1 x.2.1 x.2.2.2.2.2.2 x.2.2.1 x.2.2.2.1 x.2.2.2.2.1)
noncomputable def fQ10.l1.raw (k:Nat) (x1:List (I_Sym)) (x6:List (List (Int))) (x7:Int) (x8:List (Int)) (x9:Int) (b5_0:List (List (Int))) (b1073741824_0:List (Int)) (b1073741824_1:Int) (b1073741824_2:Int):Option ((List (List (Int)))×(List (Int))×Int×Int):=if 0≤x7 then (if x7<(x1.length:Int) then ((fQ70.f ((rd_I_Sym x1 x7).f1) 3).bind fun t2=>((fQ69.f 0 t2).bind fun t3=>(if t3<0 then none else (if x9<(wr .i64 (1*2 ^ (min (t3:Int).toNat 64))) then ((fQ17.f 2 b1073741824_0 b1073741824_1 b1073741824_2).bind fun t4=>(if x8.length+([t4.1]:List (Int)).length≤1099511627776 then (fQ10.l1 k x1 x6 x7 (x8++([t4.1]:List (Int))) (wr .i64 (x9+1)) b5_0 t4.2.1 t4.2.2.1 t4.2.2.2) else none)) else (if b5_0.length+([x8]:List (List (Int))).length≤1099511627776 then (fQ10.l0 k x1 x6 (wr .i64 (x7+1)) (b5_0++([x8]:List (List (Int)))) b1073741824_0 b1073741824_1 b1073741824_2) else none))))) else none) else none
theorem fQ10.l1.clean (k:Nat) (x1:List (I_Sym)) (x6:List (List (Int))) (x7:Int) (x8:List (Int)) (x9:Int) (b5_0:List (List (Int))) (b1073741824_0:List (Int)) (b1073741824_1:Int) (b1073741824_2:Int):fQ10.l1.raw k x1 x6 x7 x8 x9 b5_0 b1073741824_0 b1073741824_1 b1073741824_2=fQ10.l1 (k+1) x1 x6 x7 x8 x9 b5_0 b1073741824_0 b1073741824_1 b1073741824_2:=by
 rw [fQ10.l1.raw,fQ10.l1]
 simp only [wr_i64]
theorem fQ10.l1.chk (k:Nat) (x:TupT ST [.lst (.st 0),.int .i64,.int .i64,.lst (.int .u8),.int .i64,.int .i64,.lst (.lst (.int .i64)),.lst (.int .i64),.lst (.lst (.int .i64))]):runU TT (calF [] (fQ10.ents k)) (jmps fQ10.us k) (finC fQ10.pout Try.f152.results.toList) Try.f152 (some 10) (canonC fQ10.l1.c x)=fQ10.l1 (k+1) x.1 x.2.2.2.2.2.2.1 x.2.1 x.2.2.2.2.2.2.2.1 x.2.2.1 x.2.2.2.2.2.2.2.2 x.2.2.2.1 x.2.2.2.2.1 x.2.2.2.2.2.1:=Eq.trans (show _=fQ10.l1.raw k x.1 x.2.2.2.2.2.2.1 x.2.1 x.2.2.2.2.2.2.2.1 x.2.2.1 x.2.2.2.2.2.2.2.2 x.2.2.2.1 x.2.2.2.2.1 x.2.2.2.2.2.1 by kernel_rfl) (fQ10.l1.clean k x.1 x.2.2.2.2.2.2.1 x.2.1 x.2.2.2.2.2.2.2.1 x.2.2.1 x.2.2.2.2.2.2.2.2 x.2.2.2.1 x.2.2.2.2.1 x.2.2.2.2.2.1)
theorem fQ10.chk (k:Nat) (x:TupT ST fQ10.pin.es):runU TT (calF [] (fQ10.ents k)) (jmps fQ10.us k) (finC fQ10.pout Try.f152.results.toList) Try.f152 none (canonC fQ10.pin x)=fQ10.f k x.1 x.2.1 x.2.2.1 x.2.2.2:=by kernel_rfl
theorem fQ10.ok (k:Nat):Ent2Ok Try.prog TT (fQ10.ent k):=
 fun_of2 tbl mixed 152 Try.f152 Try.func152 rfl (by kernel_rfl) 2 fQ10.pin fQ10.pout (by kernel_rfl) [] fQ10.ents fQ10.us (And.intro (fun _=>rfl) (And.intro (fun _=>rfl) True.intro)) (And.intro fQ10.l0.chk (And.intro fQ10.l1.chk True.intro)) (fun k (x:TupT ST fQ10.pin.es)=>fQ10.f k x.1 x.2.1 x.2.2.1 x.2.2.2) fQ10.chk (fun k=>EntsOk.mk (And.intro fQ70.ok (And.intro fQ69.ok True.intro)) (And.intro fQ17.ok True.intro) True.intro) k
noncomputable def fQ55.f (k:Nat) (l0:List (Int)):Option ((List (I_Sym))×(List (List (Int)))):=(fQ59.f).bind fun t1=>((fQ23.f k l0).bind fun t2=>((fQ59.f).bind fun t3=>((fQ10.f k t3 t2.1 t2.2.1 t2.2.2).bind fun t4=>(some (t1,t4.1)))))
@[reducible] noncomputable def fQ55.us:List (CutU TT (TupT ST [.lst (.st 0),.lst (.lst (.int .i64))])):=[]
noncomputable def fQ55.ent (k:Nat):Ent TT:=⟨57,[.one],[.lst (.int .u8)],.tup [.one,.agg 1],[.lst (.st 0),.lst (.lst (.int .i64))],fun x=>fQ55.f k x⟩
noncomputable def fQ55.ents (k:Nat):Ents TT:=⟨[fQ59.ent],[fQ23.ent k,fQ10.ent k],[]⟩
theorem fQ55.chk (k:Nat) (x:TupT ST [.lst (.int .u8)]):runU TT (calF [] (fQ55.ents k)) (jmps fQ55.us k) (finK Try.f57 (retK TT (.tup [.one,.agg 1]) [.lst (.st 0),.lst (.lst (.int .i64))])) Try.f57 none (canon (args0 0 (argL [.one] [.lst (.int .u8)] x)) [])=fQ55.f k x:=by kernel_rfl
theorem fQ55.ok (k:Nat):EntOk Try.prog TT (fQ55.ent k):=
 fun_of tbl mixed 57 Try.f57 Try.func57 rfl (by kernel_rfl) [.one] [.lst (.int .u8)] (.tup [.one,.agg 1]) [.lst (.st 0),.lst (.lst (.int .i64))] (by kernel_rfl) [] fQ55.ents fQ55.us True.intro True.intro (fun k (x:TupT ST [.lst (.int .u8)])=>fQ55.f k x) fQ55.chk (fun k=>EntsOk.mk (And.intro fQ59.ok True.intro) (And.intro (fQ23.ok k) (And.intro (fQ10.ok k) True.intro)) True.intro) k
noncomputable def laws_at.f (l0:List (Int)) (a1:Int):Option (Int):=if a1<(l0.length:Int) then (if 0≤a1 then (some (wrap64 (rd l0 a1))) else none) else (some (Int.tmod (wrap64 ((wrap64 (a1*7))+(l0.length:Int))) 256))
@[reducible] noncomputable def laws_at.us:List (CutU TT (TupT ST [.int .i64])):=[]
noncomputable def laws_at.ent:Ent TT:=⟨153,[.one,.one],[.lst (.int .u8),.int .i64],.one,[.int .i64],fun x=>laws_at.f x.1 x.2⟩
noncomputable def laws_at.ents (k:Nat):Ents TT:=⟨[],[],[]⟩
noncomputable def laws_at.raw (k:Nat) (l0:List (Int)) (a1:Int):Option (Int):=if a1<(l0.length:Int) then (if 0≤a1 then (if a1<(l0.length:Int) then (some (wr .i64 (rd l0 a1))) else none) else none) else (if (256:Int)=0 then none else (some (Int.tmod (wr .i64 ((wr .i64 (a1*7))+(l0.length:Int))) 256)))
theorem laws_at.clean (k:Nat) (l0:List (Int)) (a1:Int):laws_at.raw k l0 a1=laws_at.f l0 a1:=by
 rw [laws_at.raw,laws_at.f]
 simp only [wr_i64]
 exact ite_congr rfl (fun h0=>ite_congr rfl (fun h1=>if_pos h0) (fun h1=>rfl)) (fun h0=>if_neg (by decide))
theorem laws_at.chk (k:Nat) (x:TupT ST [.lst (.int .u8),.int .i64]):runU TT (calF [] (laws_at.ents k)) (jmps laws_at.us k) (finK Try.f153 (retK TT (.one) [.int .i64])) Try.f153 none (canon (args0 0 (argL [.one,.one] [.lst (.int .u8),.int .i64] x)) [])=laws_at.f x.1 x.2:=Eq.trans (show _=laws_at.raw k x.1 x.2 by kernel_rfl) (laws_at.clean k x.1 x.2)
theorem laws_at.ok:EntOk Try.prog TT (laws_at.ent):=
 fun_of tbl mixed 153 Try.f153 Try.func153 rfl (by kernel_rfl) [.one,.one] [.lst (.int .u8),.int .i64] (.one) [.int .i64] (by kernel_rfl) [] laws_at.ents laws_at.us True.intro True.intro (fun k (x:TupT ST [.lst (.int .u8),.int .i64])=>laws_at.f x.1 x.2) laws_at.chk (fun k=>EntsOk.mk True.intro True.intro True.intro) 0
noncomputable def laws_envOf.l0:Nat→List (Int)→List (Int)→Int→Option ((List (Int)))
 | 0,_,_,_=>none
 | k+1,x0,x3,x4=>if x4<100 then ((laws_at.f x0 x4).bind fun t1=>(if x3.length+([Int.tmod (wrap64 (Int.tdiv t1 3)) 2]:List (Int)).length≤1099511627776 then (laws_envOf.l0 k x0 (x3++([Int.tmod (wrap64 (Int.tdiv t1 3)) 2]:List (Int))) (wrap64 (x4+1))) else none)) else (some x3)
noncomputable def laws_envOf.f (k:Nat) (l0:List (Int)):Option ((List (Int))):=laws_envOf.l0 k l0 ([]:List (Int)) 0
noncomputable def laws_envOf.l0.c:Cut:=⟨[0],[],[(0,.one),(3,.own 5),(4,.one)],[],[(5,.int .i64)],[.lst (.int .u8),.int .i64,.lst (.int .i64)]⟩
@[reducible] noncomputable def laws_envOf.us:List (CutU TT (TupT ST [.lst (.int .i64)])):=[⟨3,laws_envOf.l0.c,fun k x=>laws_envOf.l0 k x.1 x.2.2 x.2.1⟩]
noncomputable def laws_envOf.ent (k:Nat):Ent TT:=⟨58,[.one],[.lst (.int .u8)],.one,[.lst (.int .i64)],fun x=>laws_envOf.f k x⟩
noncomputable def laws_envOf.ents (k:Nat):Ents TT:=⟨[laws_at.ent],[],[]⟩
noncomputable def laws_envOf.l0.raw (k:Nat) (x0:List (Int)) (x3:List (Int)) (x4:Int):Option ((List (Int))):=if x4<100 then ((laws_at.f x0 x4).bind fun t1=>(if (3:Int)=0 then none else (if (2:Int)=0 then none else (if x3.length+([Int.tmod (wr .i64 (Int.tdiv t1 3)) 2]:List (Int)).length≤1099511627776 then (laws_envOf.l0 k x0 (x3++([Int.tmod (wr .i64 (Int.tdiv t1 3)) 2]:List (Int))) (wr .i64 (x4+1))) else none)))) else (some x3)
theorem laws_envOf.l0.clean (k:Nat) (x0:List (Int)) (x3:List (Int)) (x4:Int):laws_envOf.l0.raw k x0 x3 x4=laws_envOf.l0 (k+1) x0 x3 x4:=by
 rw [laws_envOf.l0.raw,laws_envOf.l0]
 simp only [wr_i64]
 exact ite_congr rfl (fun h0=>bind_cg fun t1=>(Eq.trans (if_neg (by decide)) (if_neg (by decide)))) (fun h0=>rfl)
theorem laws_envOf.l0.chk (k:Nat) (x:TupT ST [.lst (.int .u8),.int .i64,.lst (.int .i64)]):runU TT (calF [] (laws_envOf.ents k)) (jmps laws_envOf.us k) (finK Try.f58 (retK TT (.one) [.lst (.int .i64)])) Try.f58 (some 3) (canonC laws_envOf.l0.c x)=laws_envOf.l0 (k+1) x.1 x.2.2 x.2.1:=Eq.trans (show _=laws_envOf.l0.raw k x.1 x.2.2 x.2.1 by kernel_rfl) (laws_envOf.l0.clean k x.1 x.2.2 x.2.1)
theorem laws_envOf.chk (k:Nat) (x:TupT ST [.lst (.int .u8)]):runU TT (calF [] (laws_envOf.ents k)) (jmps laws_envOf.us k) (finK Try.f58 (retK TT (.one) [.lst (.int .i64)])) Try.f58 none (canon (args0 0 (argL [.one] [.lst (.int .u8)] x)) [])=laws_envOf.f k x:=by kernel_rfl
theorem laws_envOf.ok (k:Nat):EntOk Try.prog TT (laws_envOf.ent k):=
 fun_of tbl mixed 58 Try.f58 Try.func58 rfl (by kernel_rfl) [.one] [.lst (.int .u8)] (.one) [.lst (.int .i64)] (by kernel_rfl) [] laws_envOf.ents laws_envOf.us (And.intro (fun _=>rfl) True.intro) (And.intro laws_envOf.l0.chk True.intro) (fun k (x:TupT ST [.lst (.int .u8)])=>laws_envOf.f k x) laws_envOf.chk (fun k=>EntsOk.mk (And.intro laws_at.ok True.intro) True.intro True.intro) k
noncomputable def fQ39.f (a0_0:Int) (a0_1:Int) (a0_2:List (I_Term)) (c0_0:Int):Option (Int):=some (wrap64 (c0_0+1))
noncomputable def fQ39.pin:Cut:=⟨[],[],[(0,.agg [.one,.one,.one]),(1,.ptr 1073741824 0)],[(1073741824,[.one])],[],[.int .i64,.int .i64,.lst (.st 3),.int .i64]⟩
noncomputable def fQ39.pout:Cut:=⟨[],[],[],[(1073741824,[.one])],[],[.int .i64]⟩
@[reducible] noncomputable def fQ39.us:List (CutU TT (TupT ST fQ39.pout.es)):=[]
noncomputable def fQ39.ent:Ent2 TT:=⟨206,2,fQ39.pin,fQ39.pout,Try.f206.results.toList,fun x=>fQ39.f x.1 x.2.1 x.2.2.1 x.2.2.2⟩
noncomputable def fQ39.ents (k:Nat):Ents TT:=⟨[],[],[]⟩
noncomputable def fQ39.raw (k:Nat) (a0_0:Int) (a0_1:Int) (a0_2:List (I_Term)) (c0_0:Int):Option (Int):=some (wr .i64 (c0_0+1))
theorem fQ39.clean (k:Nat) (a0_0:Int) (a0_1:Int) (a0_2:List (I_Term)) (c0_0:Int):fQ39.raw k a0_0 a0_1 a0_2 c0_0=fQ39.f a0_0 a0_1 a0_2 c0_0:=by
 rw [fQ39.raw,fQ39.f]
 simp only [wr_i64]
theorem fQ39.chk (k:Nat) (x:TupT ST fQ39.pin.es):runU TT (calF [] (fQ39.ents k)) (jmps fQ39.us k) (finC fQ39.pout Try.f206.results.toList) Try.f206 none (canonC fQ39.pin x)=fQ39.f x.1 x.2.1 x.2.2.1 x.2.2.2:=Eq.trans (show _=fQ39.raw k x.1 x.2.1 x.2.2.1 x.2.2.2 by kernel_rfl) (fQ39.clean k x.1 x.2.1 x.2.2.1 x.2.2.2)
theorem fQ39.ok:Ent2Ok Try.prog TT (fQ39.ent):=
 fun_of2 tbl mixed 206 Try.f206 Try.func206 rfl (by kernel_rfl) 2 fQ39.pin fQ39.pout (by kernel_rfl) [] fQ39.ents fQ39.us True.intro True.intro (fun k (x:TupT ST fQ39.pin.es)=>fQ39.f x.1 x.2.1 x.2.2.1 x.2.2.2) fQ39.chk (fun k=>EntsOk.mk True.intro True.intro True.intro) 0
mutual
noncomputable def fQ12.l0:Nat→List (I_Term)→Int→Int→Int→Option (Int)
 | 0,_,_,_,_=>none
 | k+1,x10,x11,x12,b1073741824_0=>if x12<x11 then (if 0≤x12 then (if x12<(x10.length:Int) then ((fQ12.f k ((rd_I_Term x10 x12).f0) ((rd_I_Term x10 x12).f1) ((rd_I_Term x10 x12).f2) b1073741824_0).bind fun t2=>(fQ12.l0 k x10 x11 (wrap64 (x12+1)) t2)) else none) else none) else (some b1073741824_0)
noncomputable def fQ12.f:Nat→Int→Int→List (I_Term)→Int→Option (Int)
 | 0,_,_,_,_=>none
 | k+1,a0_0,a0_1,a0_2,c0_0=>(fQ39.f a0_0 a0_1 a0_2 c0_0).bind fun t1=>(fQ12.l0 k a0_2 (a0_2.length:Int) 0 t1)
end
noncomputable def fQ12.pin:Cut:=⟨[],[],[(0,.agg [.one,.one,.one]),(1,.clo 206 [.ptr 1073741824 0])],[(1073741824,[.one])],[],[.int .i64,.int .i64,.lst (.st 3),.int .i64]⟩
noncomputable def fQ12.pout:Cut:=⟨[],[],[],[(1073741824,[.one])],[],[.int .i64]⟩
noncomputable def fQ12.ent (k:Nat):Ent2 TT:=⟨111,2,fQ12.pin,fQ12.pout,Try.f111.results.toList,fun x=>fQ12.f k x.1 x.2.1 x.2.2.1 x.2.2.2⟩
noncomputable def fQ12.l0.c:Cut:=⟨[10],[],[(1,.clo 206 [.ptr 1073741824 0]),(10,.one),(11,.one),(12,.one)],[(1073741824,[.one])],[],[.lst (.st 3),.int .i64,.int .i64,.int .i64]⟩
@[reducible] noncomputable def fQ12.us:List (CutU TT (TupT ST fQ12.pout.es)):=[⟨3,fQ12.l0.c,fun k x=>fQ12.l0 k x.1 x.2.1 x.2.2.1 x.2.2.2⟩]
noncomputable def fQ12.ents (k:Nat):Ents TT:=⟨[],[fQ39.ent,fQ12.ent k],[]⟩
noncomputable def fQ12.l0.raw (k:Nat) (x10:List (I_Term)) (x11:Int) (x12:Int) (b1073741824_0:Int):Option (Int):=if x12<x11 then (if 0≤x12 then (if x12<(x10.length:Int) then ((fQ12.f k ((rd_I_Term x10 x12).f0) ((rd_I_Term x10 x12).f1) ((rd_I_Term x10 x12).f2) b1073741824_0).bind fun t2=>(fQ12.l0 k x10 x11 (wr .i64 (x12+1)) t2)) else none) else none) else (some b1073741824_0)
theorem fQ12.l0.clean (k:Nat) (x10:List (I_Term)) (x11:Int) (x12:Int) (b1073741824_0:Int):fQ12.l0.raw k x10 x11 x12 b1073741824_0=fQ12.l0 (k+1) x10 x11 x12 b1073741824_0:=by
 rw [fQ12.l0.raw,fQ12.l0]
 simp only [wr_i64]
theorem fQ12.l0.chk (k:Nat) (x:TupT ST [.lst (.st 3),.int .i64,.int .i64,.int .i64]):runU TT (calF [] (fQ12.ents k)) (jmps fQ12.us k) (finC fQ12.pout Try.f111.results.toList) Try.f111 (some 3) (canonC fQ12.l0.c x)=fQ12.l0 (k+1) x.1 x.2.1 x.2.2.1 x.2.2.2:=Eq.trans (show _=fQ12.l0.raw k x.1 x.2.1 x.2.2.1 x.2.2.2 by kernel_rfl) (fQ12.l0.clean k x.1 x.2.1 x.2.2.1 x.2.2.2)
theorem fQ12.chk (k:Nat) (x:TupT ST fQ12.pin.es):runU TT (calF [] (fQ12.ents k)) (jmps fQ12.us k) (finC fQ12.pout Try.f111.results.toList) Try.f111 none (canonC fQ12.pin x)=fQ12.f (k+1) x.1 x.2.1 x.2.2.1 x.2.2.2:=by kernel_rfl
theorem fQ12.grp:∀k:Nat,EachU (EntOk Try.prog TT) []∧EachU (Ent2Ok Try.prog TT) [fQ12.ent k]:=by
 intro k
 induction k using Nat.strongRecOn with
 | ind k ih=>
  exact And.intro True.intro (And.intro (fun_in2 tbl mixed 111 Try.f111 Try.func111 rfl (by kernel_rfl) 2 fQ12.pin fQ12.pout (by kernel_rfl) [] fQ12.ents fQ12.us (And.intro (fun _=>rfl) True.intro) (And.intro fQ12.l0.chk True.intro) (fun k (x:TupT ST fQ12.pin.es)=>fQ12.f k x.1 x.2.1 x.2.2.1 x.2.2.2) (fun _=>rfl) fQ12.chk k (fun j h=>EntsOk.mk True.intro (And.intro fQ39.ok (And.intro (ih j h).2.1 True.intro)) True.intro)) True.intro)
theorem fQ12.ok (k:Nat):Ent2Ok Try.prog TT (fQ12.ent k):=(fQ12.grp k).2.1
noncomputable def fQ73.f (k:Nat) (a0_0:Int) (a0_1:Int) (l0_2:List (I_Term)):Option (Int):=(fQ12.f k a0_0 a0_1 l0_2 0).bind fun t1=>(some t1)
@[reducible] noncomputable def fQ73.us:List (CutU TT (TupT ST [.int .i64])):=[]
noncomputable def fQ73.ent (k:Nat):Ent TT:=⟨97,[.agg 3],[.int .i64,.int .i64,.lst (.st 3)],.one,[.int .i64],fun x=>fQ73.f k x.1 x.2.1 x.2.2⟩
noncomputable def fQ73.ents (k:Nat):Ents TT:=⟨[],[fQ12.ent k],[]⟩
theorem fQ73.chk (k:Nat) (x:TupT ST [.int .i64,.int .i64,.lst (.st 3)]):runU TT (calF [] (fQ73.ents k)) (jmps fQ73.us k) (finK Try.f97 (retK TT (.one) [.int .i64])) Try.f97 none (canon (args0 0 (argL [.agg 3] [.int .i64,.int .i64,.lst (.st 3)] x)) [])=fQ73.f k x.1 x.2.1 x.2.2:=by kernel_rfl
theorem fQ73.ok (k:Nat):EntOk Try.prog TT (fQ73.ent k):=
 fun_of tbl mixed 97 Try.f97 Try.func97 rfl (by kernel_rfl) [.agg 3] [.int .i64,.int .i64,.lst (.st 3)] (.one) [.int .i64] (by kernel_rfl) [] fQ73.ents fQ73.us True.intro True.intro (fun k (x:TupT ST [.int .i64,.int .i64,.lst (.st 3)])=>fQ73.f k x.1 x.2.1 x.2.2) fQ73.chk (fun k=>EntsOk.mk True.intro (And.intro (fQ12.ok k) True.intro) True.intro) k
noncomputable def fQ48.f (a0_0:ByteArray) (a0_1:Int) (a0_2:Bool) (c0_0:ByteArray):Option (Bool×ByteArray):=some (decide (a0_0=c0_0),c0_0)
noncomputable def fQ48.pin:Cut:=⟨[],[],[(0,.agg [.one,.one,.one]),(1,.ptr 1073741824 0)],[(1073741824,[.one])],[],[.str,.int .i64,.bool,.str]⟩
noncomputable def fQ48.pout:Cut:=⟨[],[],[(3,.one)],[(1073741824,[.one])],[],[.bool,.str]⟩
@[reducible] noncomputable def fQ48.us:List (CutU TT (TupT ST fQ48.pout.es)):=[]
noncomputable def fQ48.ent:Ent2 TT:=⟨208,2,fQ48.pin,fQ48.pout,Try.f208.results.toList,fun x=>fQ48.f x.1 x.2.1 x.2.2.1 x.2.2.2⟩
noncomputable def fQ48.ents (k:Nat):Ents TT:=⟨[],[],[]⟩
theorem fQ48.chk (k:Nat) (x:TupT ST fQ48.pin.es):runU TT (calF [] (fQ48.ents k)) (jmps fQ48.us k) (finC fQ48.pout Try.f208.results.toList) Try.f208 none (canonC fQ48.pin x)=fQ48.f x.1 x.2.1 x.2.2.1 x.2.2.2:=by kernel_rfl
theorem fQ48.ok:Ent2Ok Try.prog TT (fQ48.ent):=
 fun_of2 tbl mixed 208 Try.f208 Try.func208 rfl (by kernel_rfl) 2 fQ48.pin fQ48.pout (by kernel_rfl) [] fQ48.ents fQ48.us True.intro True.intro (fun k (x:TupT ST fQ48.pin.es)=>fQ48.f x.1 x.2.1 x.2.2.1 x.2.2.2) fQ48.chk (fun k=>EntsOk.mk True.intro True.intro True.intro) 0
noncomputable def fQ6.l0:Nat→List (I_Sym)→Int→Int→ByteArray→Option (Int×ByteArray)
 | 0,_,_,_,_=>none
 | k+1,x0,x7,x8,b1073741824_0=>if x8<x7 then (if 0≤x8 then (if x8<(x0.length:Int) then ((fQ48.f ((rd_I_Sym x0 x8).f0) ((rd_I_Sym x0 x8).f1) ((rd_I_Sym x0 x8).f2) b1073741824_0).bind fun t1=>(if t1.1=true then (some (x8,t1.2)) else (fQ6.l0 k x0 x7 (wrap64 (x8+1)) t1.2))) else none) else none) else (some ((-1),b1073741824_0))
noncomputable def fQ6.f (k:Nat) (l0:List (I_Sym)) (c0_0:ByteArray):Option (Int×ByteArray):=fQ6.l0 k l0 (l0.length:Int) 0 c0_0
noncomputable def fQ6.pin:Cut:=⟨[0],[],[(0,.one),(1,.clo 208 [.ptr 1073741824 0])],[(1073741824,[.one])],[],[.lst (.st 0),.str]⟩
noncomputable def fQ6.pout:Cut:=⟨[],[],[(4,.one)],[(1073741824,[.one])],[],[.int .i64,.str]⟩
noncomputable def fQ6.l0.c:Cut:=⟨[0],[],[(0,.one),(1,.clo 208 [.ptr 1073741824 0]),(7,.one),(8,.one)],[(1073741824,[.one])],[],[.lst (.st 0),.int .i64,.int .i64,.str]⟩
@[reducible] noncomputable def fQ6.us:List (CutU TT (TupT ST fQ6.pout.es)):=[⟨2,fQ6.l0.c,fun k x=>fQ6.l0 k x.1 x.2.1 x.2.2.1 x.2.2.2⟩]
noncomputable def fQ6.ent (k:Nat):Ent2 TT:=⟨207,2,fQ6.pin,fQ6.pout,Try.f207.results.toList,fun x=>fQ6.f k x.1 x.2⟩
noncomputable def fQ6.ents (k:Nat):Ents TT:=⟨[],[fQ48.ent],[]⟩
noncomputable def fQ6.l0.raw (k:Nat) (x0:List (I_Sym)) (x7:Int) (x8:Int) (b1073741824_0:ByteArray):Option (Int×ByteArray):=if x8<x7 then (if 0≤x8 then (if x8<(x0.length:Int) then ((fQ48.f ((rd_I_Sym x0 x8).f0) ((rd_I_Sym x0 x8).f1) ((rd_I_Sym x0 x8).f2) b1073741824_0).bind fun t1=>(if t1.1=true then (some (x8,t1.2)) else (fQ6.l0 k x0 x7 (wr .i64 (x8+1)) t1.2))) else none) else none) else (some ((-1),b1073741824_0))
theorem fQ6.l0.clean (k:Nat) (x0:List (I_Sym)) (x7:Int) (x8:Int) (b1073741824_0:ByteArray):fQ6.l0.raw k x0 x7 x8 b1073741824_0=fQ6.l0 (k+1) x0 x7 x8 b1073741824_0:=by
 rw [fQ6.l0.raw,fQ6.l0]
 simp only [wr_i64]
theorem fQ6.l0.chk (k:Nat) (x:TupT ST [.lst (.st 0),.int .i64,.int .i64,.str]):runU TT (calF [] (fQ6.ents k)) (jmps fQ6.us k) (finC fQ6.pout Try.f207.results.toList) Try.f207 (some 2) (canonC fQ6.l0.c x)=fQ6.l0 (k+1) x.1 x.2.1 x.2.2.1 x.2.2.2:=Eq.trans (show _=fQ6.l0.raw k x.1 x.2.1 x.2.2.1 x.2.2.2 by kernel_rfl) (fQ6.l0.clean k x.1 x.2.1 x.2.2.1 x.2.2.2)
theorem fQ6.chk (k:Nat) (x:TupT ST fQ6.pin.es):runU TT (calF [] (fQ6.ents k)) (jmps fQ6.us k) (finC fQ6.pout Try.f207.results.toList) Try.f207 none (canonC fQ6.pin x)=fQ6.f k x.1 x.2:=by kernel_rfl
theorem fQ6.ok (k:Nat):Ent2Ok Try.prog TT (fQ6.ent k):=
 fun_of2 tbl mixed 207 Try.f207 Try.func207 rfl (by kernel_rfl) 2 fQ6.pin fQ6.pout (by kernel_rfl) [] fQ6.ents fQ6.us (And.intro (fun _=>rfl) True.intro) (And.intro fQ6.l0.chk True.intro) (fun k (x:TupT ST fQ6.pin.es)=>fQ6.f k x.1 x.2) fQ6.chk (fun k=>EntsOk.mk True.intro (And.intro fQ48.ok True.intro) True.intro) k
noncomputable def fQ71.f (k:Nat) (l0:List (I_Sym)) (a1:ByteArray):Option (Int):=(fQ6.f k l0 a1).bind fun t1=>(some t1.1)
@[reducible] noncomputable def fQ71.us:List (CutU TT (TupT ST [.int .i64])):=[]
noncomputable def fQ71.ent (k:Nat):Ent TT:=⟨98,[.one,.one],[.lst (.st 0),.str],.one,[.int .i64],fun x=>fQ71.f k x.1 x.2⟩
noncomputable def fQ71.ents (k:Nat):Ents TT:=⟨[],[fQ6.ent k],[]⟩
theorem fQ71.chk (k:Nat) (x:TupT ST [.lst (.st 0),.str]):runU TT (calF [] (fQ71.ents k)) (jmps fQ71.us k) (finK Try.f98 (retK TT (.one) [.int .i64])) Try.f98 none (canon (args0 0 (argL [.one,.one] [.lst (.st 0),.str] x)) [])=fQ71.f k x.1 x.2:=by kernel_rfl
theorem fQ71.ok (k:Nat):EntOk Try.prog TT (fQ71.ent k):=
 fun_of tbl mixed 98 Try.f98 Try.func98 rfl (by kernel_rfl) [.one,.one] [.lst (.st 0),.str] (.one) [.int .i64] (by kernel_rfl) [] fQ71.ents fQ71.us True.intro True.intro (fun k (x:TupT ST [.lst (.st 0),.str])=>fQ71.f k x.1 x.2) fQ71.chk (fun k=>EntsOk.mk True.intro (And.intro (fQ6.ok k) True.intro) True.intro) k
noncomputable def impl_from.f (a0:Int) (a1:Int) (a2:Int):Option (Bool):=if a0≥a1 then (some (decide (a0≤a2))) else (some false)
@[reducible] noncomputable def impl_from.us:List (CutU TT (TupT ST [.bool])):=[]
noncomputable def impl_from.ent:Ent TT:=⟨134,[.one,.one,.one],[.int .i64,.int .i64,.int .i64],.one,[.bool],fun x=>impl_from.f x.1 x.2.1 x.2.2⟩
noncomputable def impl_from.ents (k:Nat):Ents TT:=⟨[],[],[]⟩
theorem impl_from.chk (k:Nat) (x:TupT ST [.int .i64,.int .i64,.int .i64]):runU TT (calF [] (impl_from.ents k)) (jmps impl_from.us k) (finK Try.f134 (retK TT (.one) [.bool])) Try.f134 none (canon (args0 0 (argL [.one,.one,.one] [.int .i64,.int .i64,.int .i64] x)) [])=impl_from.f x.1 x.2.1 x.2.2:=by kernel_rfl
theorem impl_from.ok:EntOk Try.prog TT (impl_from.ent):=
 fun_of tbl mixed 134 Try.f134 Try.func134 rfl (by kernel_rfl) [.one,.one,.one] [.int .i64,.int .i64,.int .i64] (.one) [.bool] (by kernel_rfl) [] impl_from.ents impl_from.us True.intro True.intro (fun k (x:TupT ST [.int .i64,.int .i64,.int .i64])=>impl_from.f x.1 x.2.1 x.2.2) impl_from.chk (fun k=>EntsOk.mk True.intro True.intro True.intro) 0
noncomputable def fQ62.f (a0:Int):Option (Bool):=if a0≥97 then (some (decide (a0≤122))) else (some false)
@[reducible] noncomputable def fQ62.us:List (CutU TT (TupT ST [.bool])):=[]
noncomputable def fQ62.ent:Ent TT:=⟨276,[.one],[.int .u8],.one,[.bool],fun x=>fQ62.f x⟩
noncomputable def fQ62.ents (k:Nat):Ents TT:=⟨[],[],[]⟩
theorem fQ62.chk (k:Nat) (x:TupT ST [.int .u8]):runU TT (calF [] (fQ62.ents k)) (jmps fQ62.us k) (finK Try.f276 (retK TT (.one) [.bool])) Try.f276 none (canon (args0 0 (argL [.one] [.int .u8] x)) [])=fQ62.f x:=by kernel_rfl
theorem fQ62.ok:EntOk Try.prog TT (fQ62.ent):=
 fun_of tbl mixed 276 Try.f276 Try.func276 rfl (by kernel_rfl) [.one] [.int .u8] (.one) [.bool] (by kernel_rfl) [] fQ62.ents fQ62.us True.intro True.intro (fun k (x:TupT ST [.int .u8])=>fQ62.f x) fQ62.chk (fun k=>EntsOk.mk True.intro True.intro True.intro) 0
noncomputable def fQ65.f (a0:Int):Option (Bool):=if a0≥48 then (some (decide (a0≤57))) else (some false)
@[reducible] noncomputable def fQ65.us:List (CutU TT (TupT ST [.bool])):=[]
noncomputable def fQ65.ent:Ent TT:=⟨277,[.one],[.int .u8],.one,[.bool],fun x=>fQ65.f x⟩
noncomputable def fQ65.ents (k:Nat):Ents TT:=⟨[],[],[]⟩
theorem fQ65.chk (k:Nat) (x:TupT ST [.int .u8]):runU TT (calF [] (fQ65.ents k)) (jmps fQ65.us k) (finK Try.f277 (retK TT (.one) [.bool])) Try.f277 none (canon (args0 0 (argL [.one] [.int .u8] x)) [])=fQ65.f x:=by kernel_rfl
theorem fQ65.ok:EntOk Try.prog TT (fQ65.ent):=
 fun_of tbl mixed 277 Try.f277 Try.func277 rfl (by kernel_rfl) [.one] [.int .u8] (.one) [.bool] (by kernel_rfl) [] fQ65.ents fQ65.us True.intro True.intro (fun k (x:TupT ST [.int .u8])=>fQ65.f x) fQ65.chk (fun k=>EntsOk.mk True.intro True.intro True.intro) 0
noncomputable def fQ42.l0:Nat→ByteArray→Int→Int→Option (Bool)
 | 0,_,_,_=>none
 | k+1,x0,x5,x6=>if x6<x5 then (if 0≤x6 then (if x6<(x0.size:Int) then ((fQ62.f (bt x0 x6)).bind fun t1=>(if t1=true then (fQ42.l0 k x0 x5 (wrap64 (x6+1))) else ((fQ65.f (bt x0 x6)).bind fun t2=>(if t2=true then (fQ42.l0 k x0 x5 (wrap64 (x6+1))) else (some false))))) else none) else none) else ((impl_from.f (x0.size:Int) 1 8).bind fun t3=>(if t3=true then (if 0<(x0.size:Int) then ((fQ62.f (bt x0 0)).bind fun t4=>(some t4)) else none) else (some false)))
noncomputable def fQ42.f (k:Nat) (a0:ByteArray):Option (Bool):=fQ42.l0 k a0 (a0.size:Int) 0
noncomputable def fQ42.l0.c:Cut:=⟨[],[],[(0,.one),(5,.one),(6,.one)],[],[],[.str,.int .i64,.int .i64]⟩
@[reducible] noncomputable def fQ42.us:List (CutU TT (TupT ST [.bool])):=[⟨2,fQ42.l0.c,fun k x=>fQ42.l0 k x.1 x.2.1 x.2.2⟩]
noncomputable def fQ42.ent (k:Nat):Ent TT:=⟨226,[.one],[.str],.one,[.bool],fun x=>fQ42.f k x⟩
noncomputable def fQ42.ents (k:Nat):Ents TT:=⟨[fQ62.ent,fQ65.ent,impl_from.ent],[],[]⟩
noncomputable def fQ42.l0.raw (k:Nat) (x0:ByteArray) (x5:Int) (x6:Int):Option (Bool):=if x6<x5 then (if 0≤x6 then (if x6<(x0.size:Int) then ((fQ62.f (bt x0 x6)).bind fun t1=>(if (!t1)=true then (if 0≤x6 then (if x6<(x0.size:Int) then ((fQ65.f (bt x0 x6)).bind fun t2=>(if (!t2)=true then (some false) else (fQ42.l0 k x0 x5 (wr .i64 (x6+1))))) else none) else none) else (fQ42.l0 k x0 x5 (wr .i64 (x6+1))))) else none) else none) else ((impl_from.f (x0.size:Int) 1 8).bind fun t3=>(if t3=true then (if (0:Int)≤0 then (if 0<(x0.size:Int) then ((fQ62.f (bt x0 0)).bind fun t4=>(some t4)) else none) else none) else (some false)))
theorem fQ42.l0.clean (k:Nat) (x0:ByteArray) (x5:Int) (x6:Int):fQ42.l0.raw k x0 x5 x6=fQ42.l0 (k+1) x0 x5 x6:=by
 rw [fQ42.l0.raw,fQ42.l0]
 simp only [wr_i64]
 exact ite_congr rfl (fun h0=>ite_congr rfl (fun h1=>ite_congr rfl (fun h2=>bind_cg fun t1=>(Eq.trans (ite_nb _ _ _) (ite_congr rfl (fun h3=>rfl) (fun h3=>Eq.trans (if_pos h1) (Eq.trans (if_pos h2) (bind_cg fun t2=>(ite_nb _ _ _))))))) (fun h2=>rfl)) (fun h1=>rfl)) (fun h0=>bind_cg fun t3=>(ite_congr rfl (fun h1=>if_pos (by decide)) (fun h1=>rfl)))
theorem fQ42.l0.chk (k:Nat) (x:TupT ST [.str,.int .i64,.int .i64]):runU TT (calF [] (fQ42.ents k)) (jmps fQ42.us k) (finK Try.f226 (retK TT (.one) [.bool])) Try.f226 (some 2) (canonC fQ42.l0.c x)=fQ42.l0 (k+1) x.1 x.2.1 x.2.2:=Eq.trans (show _=fQ42.l0.raw k x.1 x.2.1 x.2.2 by kernel_rfl) (fQ42.l0.clean k x.1 x.2.1 x.2.2)
theorem fQ42.chk (k:Nat) (x:TupT ST [.str]):runU TT (calF [] (fQ42.ents k)) (jmps fQ42.us k) (finK Try.f226 (retK TT (.one) [.bool])) Try.f226 none (canon (args0 0 (argL [.one] [.str] x)) [])=fQ42.f k x:=by kernel_rfl
theorem fQ42.ok (k:Nat):EntOk Try.prog TT (fQ42.ent k):=
 fun_of tbl mixed 226 Try.f226 Try.func226 rfl (by kernel_rfl) [.one] [.str] (.one) [.bool] (by kernel_rfl) [] fQ42.ents fQ42.us (And.intro (fun _=>rfl) True.intro) (And.intro fQ42.l0.chk True.intro) (fun k (x:TupT ST [.str])=>fQ42.f k x) fQ42.chk (fun k=>EntsOk.mk (And.intro fQ62.ok (And.intro fQ65.ok (And.intro impl_from.ok True.intro))) True.intro True.intro) k
noncomputable def fQ43.l0:Nat→List (I_Sym)→List (I_Sym)→Int→Int→Option (Bool)
 | 0,_,_,_,_=>none
 | k+1,x0,x5,x6,x7=>if x7<x6 then (if 0≤x7 then (if x7<(x5.length:Int) then ((fQ42.f k ((rd_I_Sym x5 x7).f0)).bind fun t1=>(if t1=true then ((fQ71.f k x0 ((rd_I_Sym x5 x7).f0)).bind fun t2=>(if t2=x7 then ((impl_from.f ((rd_I_Sym x5 x7).f1) 0 3).bind fun t3=>(if t3=true then (if ((rd_I_Sym x5 x7).f2)=true then (if ((rd_I_Sym x5 x7).f1)=2 then (fQ43.l0 k x0 x5 x6 (wrap64 (x7+1))) else (some false)) else (fQ43.l0 k x0 x5 x6 (wrap64 (x7+1)))) else (some false))) else (some false))) else (some false))) else none) else none) else ((impl_from.f (x0.length:Int) 1 8).bind fun t4=>(if t4=true then (if 0<(x0.length:Int) then (if ((rd_I_Sym x0 0).f0)=(⟨#[116,116]⟩:ByteArray) then (some (decide (((rd_I_Sym x0 0).f1)=0))) else (some false)) else none) else (some false)))
noncomputable def fQ43.f (k:Nat) (l0:List (I_Sym)):Option (Bool):=fQ43.l0 k l0 l0 (l0.length:Int) 0
noncomputable def fQ43.l0.c:Cut:=⟨[0,5],[],[(0,.one),(5,.one),(6,.one),(7,.one)],[],[],[.lst (.st 0),.lst (.st 0),.int .i64,.int .i64]⟩
@[reducible] noncomputable def fQ43.us:List (CutU TT (TupT ST [.bool])):=[⟨2,fQ43.l0.c,fun k x=>fQ43.l0 k x.1 x.2.1 x.2.2.1 x.2.2.2⟩]
noncomputable def fQ43.ent (k:Nat):Ent TT:=⟨138,[.one],[.lst (.st 0)],.one,[.bool],fun x=>fQ43.f k x⟩
noncomputable def fQ43.ents (k:Nat):Ents TT:=⟨[fQ42.ent k,fQ71.ent k,impl_from.ent],[],[]⟩
noncomputable def fQ43.l0.raw (k:Nat) (x0:List (I_Sym)) (x5:List (I_Sym)) (x6:Int) (x7:Int):Option (Bool):=if x7<x6 then (if 0≤x7 then (if x7<(x5.length:Int) then ((fQ42.f k ((rd_I_Sym x5 x7).f0)).bind fun t1=>(if (!t1)=true then (some false) else ((fQ71.f k x0 ((rd_I_Sym x5 x7).f0)).bind fun t2=>(if ¬t2=x7 then (some false) else ((impl_from.f ((rd_I_Sym x5 x7).f1) 0 3).bind fun t3=>(if (!t3)=true then (some false) else (if ((rd_I_Sym x5 x7).f2)=true then (if ¬((rd_I_Sym x5 x7).f1)=2 then (some false) else (fQ43.l0 k x0 x5 x6 (wr .i64 (x7+1)))) else (fQ43.l0 k x0 x5 x6 (wr .i64 (x7+1)))))))))) else none) else none) else ((impl_from.f (x0.length:Int) 1 8).bind fun t4=>(if t4=true then (if (0:Int)≤0 then (if 0<(x0.length:Int) then (if ((rd_I_Sym x0 0).f0)=(⟨#[116,116]⟩:ByteArray) then (if (0:Int)≤0 then (if 0<(x0.length:Int) then (some (decide (((rd_I_Sym x0 0).f1)=0))) else none) else none) else (some false)) else none) else none) else (some false)))
theorem fQ43.l0.clean (k:Nat) (x0:List (I_Sym)) (x5:List (I_Sym)) (x6:Int) (x7:Int):fQ43.l0.raw k x0 x5 x6 x7=fQ43.l0 (k+1) x0 x5 x6 x7:=by
 rw [fQ43.l0.raw,fQ43.l0]
 simp only [wr_i64]
 exact ite_congr rfl (fun h0=>ite_congr rfl (fun h1=>ite_congr rfl (fun h2=>bind_cg fun t1=>(Eq.trans (ite_nb _ _ _) (ite_congr rfl (fun h3=>bind_cg fun t2=>(Eq.trans (ite_ng _ _) (ite_congr rfl (fun h4=>bind_cg fun t3=>(Eq.trans (ite_nb _ _ _) (ite_congr rfl (fun h5=>ite_congr rfl (fun h6=>ite_ng _ _) (fun h6=>rfl)) (fun h5=>rfl)))) (fun h4=>rfl)))) (fun h3=>rfl)))) (fun h2=>rfl)) (fun h1=>rfl)) (fun h0=>bind_cg fun t4=>(ite_congr rfl (fun h1=>Eq.trans (if_pos (by decide)) (ite_congr rfl (fun h2=>ite_congr rfl (fun h3=>Eq.trans (if_pos (by decide)) (if_pos h2)) (fun h3=>rfl)) (fun h2=>rfl))) (fun h1=>rfl)))
theorem fQ43.l0.chk (k:Nat) (x:TupT ST [.lst (.st 0),.lst (.st 0),.int .i64,.int .i64]):runU TT (calF [] (fQ43.ents k)) (jmps fQ43.us k) (finK Try.f138 (retK TT (.one) [.bool])) Try.f138 (some 2) (canonC fQ43.l0.c x)=fQ43.l0 (k+1) x.1 x.2.1 x.2.2.1 x.2.2.2:=Eq.trans (show _=fQ43.l0.raw k x.1 x.2.1 x.2.2.1 x.2.2.2 by kernel_rfl) (fQ43.l0.clean k x.1 x.2.1 x.2.2.1 x.2.2.2)
theorem fQ43.chk (k:Nat) (x:TupT ST [.lst (.st 0)]):runU TT (calF [] (fQ43.ents k)) (jmps fQ43.us k) (finK Try.f138 (retK TT (.one) [.bool])) Try.f138 none (canon (args0 0 (argL [.one] [.lst (.st 0)] x)) [])=fQ43.f k x:=by kernel_rfl
theorem fQ43.ok (k:Nat):EntOk Try.prog TT (fQ43.ent k):=
 fun_of tbl mixed 138 Try.f138 Try.func138 rfl (by kernel_rfl) [.one] [.lst (.st 0)] (.one) [.bool] (by kernel_rfl) [] fQ43.ents fQ43.us (And.intro (fun _=>rfl) True.intro) (And.intro fQ43.l0.chk True.intro) (fun k (x:TupT ST [.lst (.st 0)])=>fQ43.f k x) fQ43.chk (fun k=>EntsOk.mk (And.intro (fQ42.ok k) (And.intro (fQ71.ok k) (And.intro impl_from.ok True.intro))) True.intro True.intro) k
noncomputable def fQ56.f (l0:List (I_Sym)) (a1:Int):Option (Bool):=(impl_from.f a1 0 (wrap64 ((l0.length:Int) - 1))).bind fun t1=>(some t1)
@[reducible] noncomputable def fQ56.us:List (CutU TT (TupT ST [.bool])):=[]
noncomputable def fQ56.ent:Ent TT:=⟨154,[.one,.one],[.lst (.st 0),.int .i64],.one,[.bool],fun x=>fQ56.f x.1 x.2⟩
noncomputable def fQ56.ents (k:Nat):Ents TT:=⟨[impl_from.ent],[],[]⟩
noncomputable def fQ56.raw (k:Nat) (l0:List (I_Sym)) (a1:Int):Option (Bool):=(impl_from.f a1 0 (wr .i64 ((l0.length:Int) - 1))).bind fun t1=>(some t1)
theorem fQ56.clean (k:Nat) (l0:List (I_Sym)) (a1:Int):fQ56.raw k l0 a1=fQ56.f l0 a1:=by
 rw [fQ56.raw,fQ56.f]
 simp only [wr_i64]
theorem fQ56.chk (k:Nat) (x:TupT ST [.lst (.st 0),.int .i64]):runU TT (calF [] (fQ56.ents k)) (jmps fQ56.us k) (finK Try.f154 (retK TT (.one) [.bool])) Try.f154 none (canon (args0 0 (argL [.one,.one] [.lst (.st 0),.int .i64] x)) [])=fQ56.f x.1 x.2:=Eq.trans (show _=fQ56.raw k x.1 x.2 by kernel_rfl) (fQ56.clean k x.1 x.2)
theorem fQ56.ok:EntOk Try.prog TT (fQ56.ent):=
 fun_of tbl mixed 154 Try.f154 Try.func154 rfl (by kernel_rfl) [.one,.one] [.lst (.st 0),.int .i64] (.one) [.bool] (by kernel_rfl) [] fQ56.ents fQ56.us True.intro True.intro (fun k (x:TupT ST [.lst (.st 0),.int .i64])=>fQ56.f x.1 x.2) fQ56.chk (fun k=>EntsOk.mk (And.intro impl_from.ok True.intro) True.intro True.intro) 0
noncomputable def fQ57.f (a0_0:Int) (a0_1:Int) (l0_2:List (I_Term)):Option (Bool):=some (decide (a0_0=(-1)))
@[reducible] noncomputable def fQ57.us:List (CutU TT (TupT ST [.bool])):=[]
noncomputable def fQ57.ent:Ent TT:=⟨234,[.agg 3],[.int .i64,.int .i64,.lst (.st 3)],.one,[.bool],fun x=>fQ57.f x.1 x.2.1 x.2.2⟩
noncomputable def fQ57.ents (k:Nat):Ents TT:=⟨[],[],[]⟩
theorem fQ57.chk (k:Nat) (x:TupT ST [.int .i64,.int .i64,.lst (.st 3)]):runU TT (calF [] (fQ57.ents k)) (jmps fQ57.us k) (finK Try.f234 (retK TT (.one) [.bool])) Try.f234 none (canon (args0 0 (argL [.agg 3] [.int .i64,.int .i64,.lst (.st 3)] x)) [])=fQ57.f x.1 x.2.1 x.2.2:=by kernel_rfl
theorem fQ57.ok:EntOk Try.prog TT (fQ57.ent):=
 fun_of tbl mixed 234 Try.f234 Try.func234 rfl (by kernel_rfl) [.agg 3] [.int .i64,.int .i64,.lst (.st 3)] (.one) [.bool] (by kernel_rfl) [] fQ57.ents fQ57.us True.intro True.intro (fun k (x:TupT ST [.int .i64,.int .i64,.lst (.st 3)])=>fQ57.f x.1 x.2.1 x.2.2) fQ57.chk (fun k=>EntsOk.mk True.intro True.intro True.intro) 0
mutual
noncomputable def fQ19.l0:Nat→List (A2_i64)→Int→Int→Int→Int→List (I_Term)→Int→Int→List (I_Term)→Option (Int)
 | 0,_,_,_,_,_,_,_,_,_=>none
 | k+1,x26,x27,x28,b2_0,b2_1,b2_2,b3_0,b3_1,b3_2=>if x28<x27 then (if 0≤x28 then (if x28<(x26.length:Int) then (if ((rd_A2_i64 x26 x28).f0)<((rd_A2_i64 x26 x28).f1) then (some (-1)) else (if ((rd_A2_i64 x26 x28).f0)>((rd_A2_i64 x26 x28).f1) then (some 1) else (fQ19.l0 k x26 x27 (wrap64 (x28+1)) b2_0 b2_1 b2_2 b3_0 b3_1 b3_2))) else none) else none) else (fQ19.l1 k (b2_2.length:Int) 0 b2_0 b2_1 b2_2 b3_0 b3_1 b3_2)
noncomputable def fQ19.l1:Nat→Int→Int→Int→Int→List (I_Term)→Int→Int→List (I_Term)→Option (Int)
 | 0,_,_,_,_,_,_,_,_=>none
 | k+1,x47,x48,b2_0,b2_1,b2_2,b3_0,b3_1,b3_2=>if x48<x47 then (if 0≤x48 then (if x48<(b2_2.length:Int) then (if x48<(b3_2.length:Int) then ((fQ19.f k ((rd_I_Term b2_2 x48).f0) ((rd_I_Term b2_2 x48).f1) ((rd_I_Term b2_2 x48).f2) ((rd_I_Term b3_2 x48).f0) ((rd_I_Term b3_2 x48).f1) ((rd_I_Term b3_2 x48).f2)).bind fun t1=>(if t1=0 then (fQ19.l1 k x47 (wrap64 (x48+1)) b2_0 b2_1 b2_2 b3_0 b3_1 b3_2) else (some t1))) else none) else none) else none) else (some 0)
noncomputable def fQ19.f:Nat→Int→Int→List (I_Term)→Int→Int→List (I_Term)→Option (Int)
 | 0,_,_,_,_,_,_=>none
 | k+1,a0_0,a0_1,l0_2,a1_0,a1_1,l1_2=>fQ19.l0 k ([⟨a0_0,a1_0⟩,⟨a0_1,a1_1⟩,⟨(l0_2.length:Int),(l1_2.length:Int)⟩]:List (A2_i64)) (([⟨a0_0,a1_0⟩,⟨a0_1,a1_1⟩,⟨(l0_2.length:Int),(l1_2.length:Int)⟩]:List (A2_i64)).length:Int) 0 a0_0 a0_1 l0_2 a1_0 a1_1 l1_2
end
noncomputable def fQ19.ent (k:Nat):Ent TT:=⟨163,[.agg 3,.agg 3],[.int .i64,.int .i64,.lst (.st 3),.int .i64,.int .i64,.lst (.st 3)],.one,[.int .i64],fun x=>fQ19.f k x.1 x.2.1 x.2.2.1 x.2.2.2.1 x.2.2.2.2.1 x.2.2.2.2.2⟩
noncomputable def fQ19.l0.c:Cut:=⟨[],[(2,2),(3,2)],[(2,.ptr 2 0),(3,.ptr 3 0),(26,.own 26),(27,.one),(28,.one)],[(2,[.one,.one,.one]),(3,[.one,.one,.one])],[(26,.st 4)],[.int .i64,.int .i64,.int .i64,.int .i64,.lst (.st 3),.int .i64,.int .i64,.lst (.st 3),.lst (.st 4)]⟩
noncomputable def fQ19.l1.c:Cut:=⟨[],[(2,2),(3,2)],[(2,.ptr 2 0),(3,.ptr 3 0),(47,.one),(48,.one)],[(2,[.one,.one,.one]),(3,[.one,.one,.one])],[],[.int .i64,.int .i64,.int .i64,.int .i64,.lst (.st 3),.int .i64,.int .i64,.lst (.st 3)]⟩
@[reducible] noncomputable def fQ19.us:List (CutU TT (TupT ST [.int .i64])):=[⟨2,fQ19.l0.c,fun k x=>fQ19.l0 k x.2.2.2.2.2.2.2.2 x.1 x.2.1 x.2.2.1 x.2.2.2.1 x.2.2.2.2.1 x.2.2.2.2.2.1 x.2.2.2.2.2.2.1 x.2.2.2.2.2.2.2.1⟩,⟨10,fQ19.l1.c,fun k x=>fQ19.l1 k x.1 x.2.1 x.2.2.1 x.2.2.2.1 x.2.2.2.2.1 x.2.2.2.2.2.1 x.2.2.2.2.2.2.1 x.2.2.2.2.2.2.2⟩]
noncomputable def fQ19.ents (k:Nat):Ents TT:=⟨[fQ19.ent k],[],[]⟩
noncomputable def fQ19.l0.raw (k:Nat) (x26:List (A2_i64)) (x27:Int) (x28:Int) (b2_0:Int) (b2_1:Int) (b2_2:List (I_Term)) (b3_0:Int) (b3_1:Int) (b3_2:List (I_Term)):Option (Int):=if x28<x27 then (if 0≤x28 then (if x28<(x26.length:Int) then (if ((rd_A2_i64 x26 x28).f0)<((rd_A2_i64 x26 x28).f1) then (some (-1)) else (if ((rd_A2_i64 x26 x28).f0)>((rd_A2_i64 x26 x28).f1) then (some 1) else (fQ19.l0 k x26 x27 (wr .i64 (x28+1)) b2_0 b2_1 b2_2 b3_0 b3_1 b3_2))) else none) else none) else (fQ19.l1 k (b2_2.length:Int) 0 b2_0 b2_1 b2_2 b3_0 b3_1 b3_2)
theorem fQ19.l0.clean (k:Nat) (x26:List (A2_i64)) (x27:Int) (x28:Int) (b2_0:Int) (b2_1:Int) (b2_2:List (I_Term)) (b3_0:Int) (b3_1:Int) (b3_2:List (I_Term)):fQ19.l0.raw k x26 x27 x28 b2_0 b2_1 b2_2 b3_0 b3_1 b3_2=fQ19.l0 (k+1) x26 x27 x28 b2_0 b2_1 b2_2 b3_0 b3_1 b3_2:=by
 rw [fQ19.l0.raw,fQ19.l0]
 simp only [wr_i64]
theorem fQ19.l0.chk (k:Nat) (x:TupT ST [.int .i64,.int .i64,.int .i64,.int .i64,.lst (.st 3),.int .i64,.int .i64,.lst (.st 3),.lst (.st 4)]):runU TT (calF [] (fQ19.ents k)) (jmps fQ19.us k) (finK Try.f163 (retK TT (.one) [.int .i64])) Try.f163 (some 2) (canonC fQ19.l0.c x)=fQ19.l0 (k+1) x.2.2.2.2.2.2.2.2 x.1 x.2.1 x.2.2.1 x.2.2.2.1 x.2.2.2.2.1 x.2.2.2.2.2.1 x.2.2.2.2.2.2.1 x.2.2.2.2.2.2.2.1:=Eq.trans (show _=fQ19.l0.raw k x.2.2.2.2.2.2.2.2 x.1 x.2.1 x.2.2.1 x.2.2.2.1 x.2.2.2.2.1 x.2.2.2.2.2.1 x.2.2.2.2.2.2.1 x.2.2.2.2.2.2.2.1 by kernel_rfl) (fQ19.l0.clean k x.2.2.2.2.2.2.2.2 x.1 x.2.1 x.2.2.1 x.2.2.2.1 x.2.2.2.2.1 x.2.2.2.2.2.1 x.2.2.2.2.2.2.1 x.2.2.2.2.2.2.2.1)
noncomputable def fQ19.l1.raw (k:Nat) (x47:Int) (x48:Int) (b2_0:Int) (b2_1:Int) (b2_2:List (I_Term)) (b3_0:Int) (b3_1:Int) (b3_2:List (I_Term)):Option (Int):=if x48<x47 then (if 0≤x48 then (if x48<(b2_2.length:Int) then (if 0≤x48 then (if x48<(b3_2.length:Int) then ((fQ19.f k ((rd_I_Term b2_2 x48).f0) ((rd_I_Term b2_2 x48).f1) ((rd_I_Term b2_2 x48).f2) ((rd_I_Term b3_2 x48).f0) ((rd_I_Term b3_2 x48).f1) ((rd_I_Term b3_2 x48).f2)).bind fun t1=>(if ¬t1=0 then (some t1) else (fQ19.l1 k x47 (wr .i64 (x48+1)) b2_0 b2_1 b2_2 b3_0 b3_1 b3_2))) else none) else none) else none) else none) else (some 0)
theorem fQ19.l1.clean (k:Nat) (x47:Int) (x48:Int) (b2_0:Int) (b2_1:Int) (b2_2:List (I_Term)) (b3_0:Int) (b3_1:Int) (b3_2:List (I_Term)):fQ19.l1.raw k x47 x48 b2_0 b2_1 b2_2 b3_0 b3_1 b3_2=fQ19.l1 (k+1) x47 x48 b2_0 b2_1 b2_2 b3_0 b3_1 b3_2:=by
 rw [fQ19.l1.raw,fQ19.l1]
 simp only [wr_i64]
 exact ite_congr rfl (fun h0=>ite_congr rfl (fun h1=>ite_congr rfl (fun h2=>Eq.trans (if_pos h1) (ite_congr rfl (fun h3=>bind_cg fun t1=>(ite_ng _ _)) (fun h3=>rfl))) (fun h2=>rfl)) (fun h1=>rfl)) (fun h0=>rfl)
theorem fQ19.l1.chk (k:Nat) (x:TupT ST [.int .i64,.int .i64,.int .i64,.int .i64,.lst (.st 3),.int .i64,.int .i64,.lst (.st 3)]):runU TT (calF [] (fQ19.ents k)) (jmps fQ19.us k) (finK Try.f163 (retK TT (.one) [.int .i64])) Try.f163 (some 10) (canonC fQ19.l1.c x)=fQ19.l1 (k+1) x.1 x.2.1 x.2.2.1 x.2.2.2.1 x.2.2.2.2.1 x.2.2.2.2.2.1 x.2.2.2.2.2.2.1 x.2.2.2.2.2.2.2:=Eq.trans (show _=fQ19.l1.raw k x.1 x.2.1 x.2.2.1 x.2.2.2.1 x.2.2.2.2.1 x.2.2.2.2.2.1 x.2.2.2.2.2.2.1 x.2.2.2.2.2.2.2 by kernel_rfl) (fQ19.l1.clean k x.1 x.2.1 x.2.2.1 x.2.2.2.1 x.2.2.2.2.1 x.2.2.2.2.2.1 x.2.2.2.2.2.2.1 x.2.2.2.2.2.2.2)
theorem fQ19.chk (k:Nat) (x:TupT ST [.int .i64,.int .i64,.lst (.st 3),.int .i64,.int .i64,.lst (.st 3)]):runU TT (calF [] (fQ19.ents k)) (jmps fQ19.us k) (finK Try.f163 (retK TT (.one) [.int .i64])) Try.f163 none (canon (args0 0 (argL [.agg 3,.agg 3] [.int .i64,.int .i64,.lst (.st 3),.int .i64,.int .i64,.lst (.st 3)] x)) [])=fQ19.f (k+1) x.1 x.2.1 x.2.2.1 x.2.2.2.1 x.2.2.2.2.1 x.2.2.2.2.2:=by kernel_rfl
theorem fQ19.grp:∀k:Nat,EachU (EntOk Try.prog TT) [fQ19.ent k]∧EachU (Ent2Ok Try.prog TT) []:=by
 intro k
 induction k using Nat.strongRecOn with
 | ind k ih=>
  exact And.intro (And.intro (fun_in tbl mixed 163 Try.f163 Try.func163 rfl (by kernel_rfl) [.agg 3,.agg 3] [.int .i64,.int .i64,.lst (.st 3),.int .i64,.int .i64,.lst (.st 3)] (.one) [.int .i64] (by kernel_rfl) [] fQ19.ents fQ19.us (And.intro (fun _=>rfl) (And.intro (fun _=>rfl) True.intro)) (And.intro fQ19.l0.chk (And.intro fQ19.l1.chk True.intro)) (fun k (x:TupT ST [.int .i64,.int .i64,.lst (.st 3),.int .i64,.int .i64,.lst (.st 3)])=>fQ19.f k x.1 x.2.1 x.2.2.1 x.2.2.2.1 x.2.2.2.2.1 x.2.2.2.2.2) (fun _=>rfl) fQ19.chk k (fun j h=>EntsOk.mk (And.intro (ih j h).1.1 True.intro) True.intro True.intro)) True.intro) True.intro
theorem fQ19.ok (k:Nat):EntOk Try.prog TT (fQ19.ent k):=(fQ19.grp k).1.1
noncomputable def fQ68.f (k:Nat) (a0_0:Int) (a0_1:Int) (l0_2:List (I_Term)) (a1_0:Int) (a1_1:Int) (l1_2:List (I_Term)):Option (Bool):=(fQ19.f k a0_0 a0_1 l0_2 a1_0 a1_1 l1_2).bind fun t1=>(some (decide (t1<0)))
@[reducible] noncomputable def fQ68.us:List (CutU TT (TupT ST [.bool])):=[]
noncomputable def fQ68.ent (k:Nat):Ent TT:=⟨235,[.agg 3,.agg 3],[.int .i64,.int .i64,.lst (.st 3),.int .i64,.int .i64,.lst (.st 3)],.one,[.bool],fun x=>fQ68.f k x.1 x.2.1 x.2.2.1 x.2.2.2.1 x.2.2.2.2.1 x.2.2.2.2.2⟩
noncomputable def fQ68.ents (k:Nat):Ents TT:=⟨[fQ19.ent k],[],[]⟩
theorem fQ68.chk (k:Nat) (x:TupT ST [.int .i64,.int .i64,.lst (.st 3),.int .i64,.int .i64,.lst (.st 3)]):runU TT (calF [] (fQ68.ents k)) (jmps fQ68.us k) (finK Try.f235 (retK TT (.one) [.bool])) Try.f235 none (canon (args0 0 (argL [.agg 3,.agg 3] [.int .i64,.int .i64,.lst (.st 3),.int .i64,.int .i64,.lst (.st 3)] x)) [])=fQ68.f k x.1 x.2.1 x.2.2.1 x.2.2.2.1 x.2.2.2.2.1 x.2.2.2.2.2:=by kernel_rfl
theorem fQ68.ok (k:Nat):EntOk Try.prog TT (fQ68.ent k):=
 fun_of tbl mixed 235 Try.f235 Try.func235 rfl (by kernel_rfl) [.agg 3,.agg 3] [.int .i64,.int .i64,.lst (.st 3),.int .i64,.int .i64,.lst (.st 3)] (.one) [.bool] (by kernel_rfl) [] fQ68.ents fQ68.us True.intro True.intro (fun k (x:TupT ST [.int .i64,.int .i64,.lst (.st 3),.int .i64,.int .i64,.lst (.st 3)])=>fQ68.f k x.1 x.2.1 x.2.2.1 x.2.2.2.1 x.2.2.2.2.1 x.2.2.2.2.2) fQ68.chk (fun k=>EntsOk.mk (And.intro (fQ19.ok k) True.intro) True.intro True.intro) k
mutual
noncomputable def fQ27.l0:Nat→List (I_Sym)→List (I_Term)→Int→Int→Int→Int→List (I_Term)→Option (Bool)
 | 0,_,_,_,_,_,_,_=>none
 | k+1,x0,x64,x65,x66,b3_0,b3_1,b3_2=>if x66<x65 then (if 0≤x66 then (if x66<(x64.length:Int) then ((fQ27.f k x0 ((rd_I_Term x64 x66).f0) ((rd_I_Term x64 x66).f1) ((rd_I_Term x64 x66).f2)).bind fun t4=>(if t4=true then (if 0≤b3_0 then (if b3_0<(x0.length:Int) then (if ((rd_I_Sym x0 b3_0).f2)=true then (if ((rd_I_Term x64 x66).f0)=b3_0 then (some false) else (if x66>0 then (if 0≤(wrap64 (x66 - 1)) then (if (wrap64 (x66 - 1))<(b3_2.length:Int) then ((fQ68.f k ((rd_I_Term x64 x66).f0) ((rd_I_Term x64 x66).f1) ((rd_I_Term x64 x66).f2) ((rd_I_Term b3_2 (wrap64 (x66 - 1))).f0) ((rd_I_Term b3_2 (wrap64 (x66 - 1))).f1) ((rd_I_Term b3_2 (wrap64 (x66 - 1))).f2)).bind fun t5=>(if t5=true then (some false) else (fQ27.l0 k x0 x64 x65 (wrap64 (x66+1)) b3_0 b3_1 b3_2))) else none) else none) else (fQ27.l0 k x0 x64 x65 (wrap64 (x66+1)) b3_0 b3_1 b3_2))) else (fQ27.l0 k x0 x64 x65 (wrap64 (x66+1)) b3_0 b3_1 b3_2)) else none) else none) else (some false))) else none) else none) else (some true)
noncomputable def fQ27.f:Nat→List (I_Sym)→Int→Int→List (I_Term)→Option (Bool)
 | 0,_,_,_,_=>none
 | k+1,l0,a1_0,a1_1,l1_2=>(fQ57.f a1_0 a1_1 l1_2).bind fun t1=>(if t1=true then ((impl_from.f a1_1 0 99).bind fun t2=>(if t2=true then (some (decide ((l1_2.length:Int)=0))) else (some false))) else ((fQ56.f l0 a1_0).bind fun t3=>(if t3=true then (if a1_1=0 then (if 0≤a1_0 then (if a1_0<(l0.length:Int) then (if ((rd_I_Sym l0 a1_0).f2)=true then (if (l1_2.length:Int)<2 then (some false) else (fQ27.l0 k l0 l1_2 (l1_2.length:Int) 0 a1_0 a1_1 l1_2)) else (if (l1_2.length:Int)=((rd_I_Sym l0 a1_0).f1) then (fQ27.l0 k l0 l1_2 (l1_2.length:Int) 0 a1_0 a1_1 l1_2) else (some false))) else none) else none) else (some false)) else (some false))))
end
noncomputable def fQ27.ent (k:Nat):Ent TT:=⟨156,[.one,.agg 3],[.lst (.st 0),.int .i64,.int .i64,.lst (.st 3)],.one,[.bool],fun x=>fQ27.f k x.1 x.2.1 x.2.2.1 x.2.2.2⟩
noncomputable def fQ27.l0.c:Cut:=⟨[0,64],[(3,2)],[(0,.one),(3,.ptr 3 0),(64,.one),(65,.one),(66,.one)],[(3,[.one,.one,.one])],[],[.lst (.st 0),.lst (.st 3),.int .i64,.int .i64,.int .i64,.int .i64,.lst (.st 3)]⟩
@[reducible] noncomputable def fQ27.us:List (CutU TT (TupT ST [.bool])):=[⟨6,fQ27.l0.c,fun k x=>fQ27.l0 k x.1 x.2.1 x.2.2.1 x.2.2.2.1 x.2.2.2.2.1 x.2.2.2.2.2.1 x.2.2.2.2.2.2⟩]
noncomputable def fQ27.ents (k:Nat):Ents TT:=⟨[fQ57.ent,impl_from.ent,fQ56.ent,fQ27.ent k,fQ68.ent k],[],[]⟩
noncomputable def fQ27.l0.raw (k:Nat) (x0:List (I_Sym)) (x64:List (I_Term)) (x65:Int) (x66:Int) (b3_0:Int) (b3_1:Int) (b3_2:List (I_Term)):Option (Bool):=if x66<x65 then (if 0≤x66 then (if x66<(x64.length:Int) then ((fQ27.f k x0 ((rd_I_Term x64 x66).f0) ((rd_I_Term x64 x66).f1) ((rd_I_Term x64 x66).f2)).bind fun t4=>(if (!t4)=true then (some false) else (if 0≤b3_0 then (if b3_0<(x0.length:Int) then (if ((rd_I_Sym x0 b3_0).f2)=true then (if ((rd_I_Term x64 x66).f0)=b3_0 then (some false) else (if x66>0 then (if 0≤(wr .i64 (x66 - 1)) then (if (wr .i64 (x66 - 1))<(b3_2.length:Int) then ((fQ68.f k ((rd_I_Term x64 x66).f0) ((rd_I_Term x64 x66).f1) ((rd_I_Term x64 x66).f2) ((rd_I_Term b3_2 (wr .i64 (x66 - 1))).f0) ((rd_I_Term b3_2 (wr .i64 (x66 - 1))).f1) ((rd_I_Term b3_2 (wr .i64 (x66 - 1))).f2)).bind fun t5=>(if t5=true then (some false) else (fQ27.l0 k x0 x64 x65 (wr .i64 (x66+1)) b3_0 b3_1 b3_2))) else none) else none) else (fQ27.l0 k x0 x64 x65 (wr .i64 (x66+1)) b3_0 b3_1 b3_2))) else (fQ27.l0 k x0 x64 x65 (wr .i64 (x66+1)) b3_0 b3_1 b3_2)) else none) else none))) else none) else none) else (some true)
theorem fQ27.l0.clean (k:Nat) (x0:List (I_Sym)) (x64:List (I_Term)) (x65:Int) (x66:Int) (b3_0:Int) (b3_1:Int) (b3_2:List (I_Term)):fQ27.l0.raw k x0 x64 x65 x66 b3_0 b3_1 b3_2=fQ27.l0 (k+1) x0 x64 x65 x66 b3_0 b3_1 b3_2:=by
 rw [fQ27.l0.raw,fQ27.l0]
 simp only [wr_i64]
 exact ite_congr rfl (fun h0=>ite_congr rfl (fun h1=>ite_congr rfl (fun h2=>bind_cg fun t4=>(ite_nb _ _ _)) (fun h2=>rfl)) (fun h1=>rfl)) (fun h0=>rfl)
theorem fQ27.l0.chk (k:Nat) (x:TupT ST [.lst (.st 0),.lst (.st 3),.int .i64,.int .i64,.int .i64,.int .i64,.lst (.st 3)]):runU TT (calF [] (fQ27.ents k)) (jmps fQ27.us k) (finK Try.f156 (retK TT (.one) [.bool])) Try.f156 (some 6) (canonC fQ27.l0.c x)=fQ27.l0 (k+1) x.1 x.2.1 x.2.2.1 x.2.2.2.1 x.2.2.2.2.1 x.2.2.2.2.2.1 x.2.2.2.2.2.2:=Eq.trans (show _=fQ27.l0.raw k x.1 x.2.1 x.2.2.1 x.2.2.2.1 x.2.2.2.2.1 x.2.2.2.2.2.1 x.2.2.2.2.2.2 by kernel_rfl) (fQ27.l0.clean k x.1 x.2.1 x.2.2.1 x.2.2.2.1 x.2.2.2.2.1 x.2.2.2.2.2.1 x.2.2.2.2.2.2)
noncomputable def fQ27.raw (k:Nat) (l0:List (I_Sym)) (a1_0:Int) (a1_1:Int) (l1_2:List (I_Term)):Option (Bool):=(fQ57.f a1_0 a1_1 l1_2).bind fun t1=>(if t1=true then ((impl_from.f a1_1 0 99).bind fun t2=>(if t2=true then (some (decide ((l1_2.length:Int)=0))) else (some false))) else ((fQ56.f l0 a1_0).bind fun t3=>(if (!t3)=true then (some false) else (if ¬a1_1=0 then (some false) else (if 0≤a1_0 then (if a1_0<(l0.length:Int) then (if (!((rd_I_Sym l0 a1_0).f2))=true then (if 0≤a1_0 then (if a1_0<(l0.length:Int) then (if ¬(l1_2.length:Int)=((rd_I_Sym l0 a1_0).f1) then (some false) else (if 0≤a1_0 then (if a1_0<(l0.length:Int) then (if ((rd_I_Sym l0 a1_0).f2)=true then (if (l1_2.length:Int)<2 then (some false) else (fQ27.l0 k l0 l1_2 (l1_2.length:Int) 0 a1_0 a1_1 l1_2)) else (fQ27.l0 k l0 l1_2 (l1_2.length:Int) 0 a1_0 a1_1 l1_2)) else none) else none)) else none) else none) else (if 0≤a1_0 then (if a1_0<(l0.length:Int) then (if ((rd_I_Sym l0 a1_0).f2)=true then (if (l1_2.length:Int)<2 then (some false) else (fQ27.l0 k l0 l1_2 (l1_2.length:Int) 0 a1_0 a1_1 l1_2)) else (fQ27.l0 k l0 l1_2 (l1_2.length:Int) 0 a1_0 a1_1 l1_2)) else none) else none)) else none) else none)))))
theorem fQ27.clean (k:Nat) (l0:List (I_Sym)) (a1_0:Int) (a1_1:Int) (l1_2:List (I_Term)):fQ27.raw k l0 a1_0 a1_1 l1_2=fQ27.f (k+1) l0 a1_0 a1_1 l1_2:=by
 rw [fQ27.raw,fQ27.f]
 exact bind_cg fun t1=>(ite_congr rfl (fun h0=>rfl) (fun h0=>bind_cg fun t3=>(Eq.trans (ite_nb _ _ _) (ite_congr rfl (fun h1=>Eq.trans (ite_ng _ _) (ite_congr rfl (fun h2=>ite_congr rfl (fun h3=>ite_congr rfl (fun h4=>Eq.trans (ite_nb _ _ _) (ite_congr rfl (fun h5=>Eq.trans (if_pos h3) (Eq.trans (if_pos h4) (if_pos h5))) (fun h5=>Eq.trans (if_pos h3) (Eq.trans (if_pos h4) (Eq.trans (ite_ng _ _) (ite_congr rfl (fun h6=>Eq.trans (if_pos h3) (Eq.trans (if_pos h4) (if_neg h5))) (fun h6=>rfl))))))) (fun h4=>rfl)) (fun h3=>rfl)) (fun h2=>rfl))) (fun h1=>rfl)))))
theorem fQ27.chk (k:Nat) (x:TupT ST [.lst (.st 0),.int .i64,.int .i64,.lst (.st 3)]):runU TT (calF [] (fQ27.ents k)) (jmps fQ27.us k) (finK Try.f156 (retK TT (.one) [.bool])) Try.f156 none (canon (args0 0 (argL [.one,.agg 3] [.lst (.st 0),.int .i64,.int .i64,.lst (.st 3)] x)) [])=fQ27.f (k+1) x.1 x.2.1 x.2.2.1 x.2.2.2:=Eq.trans (show _=fQ27.raw k x.1 x.2.1 x.2.2.1 x.2.2.2 by kernel_rfl) (fQ27.clean k x.1 x.2.1 x.2.2.1 x.2.2.2)
theorem fQ27.grp:∀k:Nat,EachU (EntOk Try.prog TT) [fQ27.ent k]∧EachU (Ent2Ok Try.prog TT) []:=by
 intro k
 induction k using Nat.strongRecOn with
 | ind k ih=>
  exact And.intro (And.intro (fun_in tbl mixed 156 Try.f156 Try.func156 rfl (by kernel_rfl) [.one,.agg 3] [.lst (.st 0),.int .i64,.int .i64,.lst (.st 3)] (.one) [.bool] (by kernel_rfl) [] fQ27.ents fQ27.us (And.intro (fun _=>rfl) True.intro) (And.intro fQ27.l0.chk True.intro) (fun k (x:TupT ST [.lst (.st 0),.int .i64,.int .i64,.lst (.st 3)])=>fQ27.f k x.1 x.2.1 x.2.2.1 x.2.2.2) (fun _=>rfl) fQ27.chk k (fun j h=>EntsOk.mk (And.intro fQ57.ok (And.intro impl_from.ok (And.intro fQ56.ok (And.intro (ih j h).1.1 (And.intro (fQ68.ok j) True.intro))))) True.intro True.intro)) True.intro) True.intro
theorem fQ27.ok (k:Nat):EntOk Try.prog TT (fQ27.ent k):=(fQ27.grp k).1.1
noncomputable def fQ47.f (k:Nat) (l0:List (I_Sym)) (a1_0:Int) (a1_1:Int) (l1_2:List (I_Term)):Option (Bool):=(fQ43.f k l0).bind fun t1=>(if t1=true then ((fQ73.f k a1_0 a1_1 l1_2).bind fun t2=>(if t2≤60 then ((fQ27.f k l0 a1_0 a1_1 l1_2).bind fun t3=>(some t3)) else (some false))) else (some false))
@[reducible] noncomputable def fQ47.us:List (CutU TT (TupT ST [.bool])):=[]
noncomputable def fQ47.ent (k:Nat):Ent TT:=⟨60,[.one,.agg 3],[.lst (.st 0),.int .i64,.int .i64,.lst (.st 3)],.one,[.bool],fun x=>fQ47.f k x.1 x.2.1 x.2.2.1 x.2.2.2⟩
noncomputable def fQ47.ents (k:Nat):Ents TT:=⟨[fQ43.ent k,fQ73.ent k,fQ27.ent k],[],[]⟩
theorem fQ47.chk (k:Nat) (x:TupT ST [.lst (.st 0),.int .i64,.int .i64,.lst (.st 3)]):runU TT (calF [] (fQ47.ents k)) (jmps fQ47.us k) (finK Try.f60 (retK TT (.one) [.bool])) Try.f60 none (canon (args0 0 (argL [.one,.agg 3] [.lst (.st 0),.int .i64,.int .i64,.lst (.st 3)] x)) [])=fQ47.f k x.1 x.2.1 x.2.2.1 x.2.2.2:=by kernel_rfl
theorem fQ47.ok (k:Nat):EntOk Try.prog TT (fQ47.ent k):=
 fun_of tbl mixed 60 Try.f60 Try.func60 rfl (by kernel_rfl) [.one,.agg 3] [.lst (.st 0),.int .i64,.int .i64,.lst (.st 3)] (.one) [.bool] (by kernel_rfl) [] fQ47.ents fQ47.us True.intro True.intro (fun k (x:TupT ST [.lst (.st 0),.int .i64,.int .i64,.lst (.st 3)])=>fQ47.f k x.1 x.2.1 x.2.2.1 x.2.2.2) fQ47.chk (fun k=>EntsOk.mk (And.intro (fQ43.ok k) (And.intro (fQ73.ok k) (And.intro (fQ27.ok k) True.intro))) True.intro True.intro) k
noncomputable def fQ35.l0:Nat→Int→Int→Int→Int→Option (Int)
 | 0,_,_,_,_=>none
 | k+1,x0,x5,x6,x7=>if x7<x6 then (fQ35.l0 k x0 (wrap64 (x5*x0)) x6 (wrap64 (x7+1))) else (some x5)
noncomputable def fQ35.f (k:Nat) (a0:Int) (a1:Int):Option (Int):=fQ35.l0 k a0 1 a1 0
noncomputable def fQ35.l0.c:Cut:=⟨[],[],[(0,.one),(5,.one),(6,.one),(7,.one)],[],[],[.int .i64,.int .i64,.int .i64,.int .i64]⟩
@[reducible] noncomputable def fQ35.us:List (CutU TT (TupT ST [.int .i64])):=[⟨3,fQ35.l0.c,fun k x=>fQ35.l0 k x.1 x.2.1 x.2.2.1 x.2.2.2⟩]
noncomputable def fQ35.ent (k:Nat):Ent TT:=⟨139,[.one,.one],[.int .i64,.int .i64],.one,[.int .i64],fun x=>fQ35.f k x.1 x.2⟩
noncomputable def fQ35.ents (k:Nat):Ents TT:=⟨[],[],[]⟩
noncomputable def fQ35.l0.raw (k:Nat) (x0:Int) (x5:Int) (x6:Int) (x7:Int):Option (Int):=if x7<x6 then (fQ35.l0 k x0 (wr .i64 (x5*x0)) x6 (wr .i64 (x7+1))) else (some x5)
theorem fQ35.l0.clean (k:Nat) (x0:Int) (x5:Int) (x6:Int) (x7:Int):fQ35.l0.raw k x0 x5 x6 x7=fQ35.l0 (k+1) x0 x5 x6 x7:=by
 rw [fQ35.l0.raw,fQ35.l0]
 simp only [wr_i64]
theorem fQ35.l0.chk (k:Nat) (x:TupT ST [.int .i64,.int .i64,.int .i64,.int .i64]):runU TT (calF [] (fQ35.ents k)) (jmps fQ35.us k) (finK Try.f139 (retK TT (.one) [.int .i64])) Try.f139 (some 3) (canonC fQ35.l0.c x)=fQ35.l0 (k+1) x.1 x.2.1 x.2.2.1 x.2.2.2:=Eq.trans (show _=fQ35.l0.raw k x.1 x.2.1 x.2.2.1 x.2.2.2 by kernel_rfl) (fQ35.l0.clean k x.1 x.2.1 x.2.2.1 x.2.2.2)
theorem fQ35.chk (k:Nat) (x:TupT ST [.int .i64,.int .i64]):runU TT (calF [] (fQ35.ents k)) (jmps fQ35.us k) (finK Try.f139 (retK TT (.one) [.int .i64])) Try.f139 none (canon (args0 0 (argL [.one,.one] [.int .i64,.int .i64] x)) [])=fQ35.f k x.1 x.2:=by kernel_rfl
theorem fQ35.ok (k:Nat):EntOk Try.prog TT (fQ35.ent k):=
 fun_of tbl mixed 139 Try.f139 Try.func139 rfl (by kernel_rfl) [.one,.one] [.int .i64,.int .i64] (.one) [.int .i64] (by kernel_rfl) [] fQ35.ents fQ35.us (And.intro (fun _=>rfl) True.intro) (And.intro fQ35.l0.chk True.intro) (fun k (x:TupT ST [.int .i64,.int .i64])=>fQ35.f k x.1 x.2) fQ35.chk (fun k=>EntsOk.mk True.intro True.intro True.intro) k
noncomputable def fQ21.f (a0:Int) (a1:Int) (c0_0:List (Int)) (c1_0:Int):Option (Int×(List (Int))×Int):=if 0≤(wrap64 (a0+(wrap64 (c1_0*a1)))) then (if (wrap64 (a0+(wrap64 (c1_0*a1))))<(c0_0.length:Int) then (some (rd c0_0 (wrap64 (a0+(wrap64 (c1_0*a1)))),c0_0,c1_0)) else none) else none
noncomputable def fQ21.pin:Cut:=⟨[],[(1073741824,0)],[(0,.one),(1,.one),(2,.ptr 1073741824 0),(3,.ptr 1073741825 0)],[(1073741824,[.one]),(1073741825,[.one])],[],[.int .i64,.int .i64,.lst (.int .i64),.int .i64]⟩
noncomputable def fQ21.pout:Cut:=⟨[],[(1073741824,0)],[(6,.one)],[(1073741824,[.one]),(1073741825,[.one])],[],[.int .i64,.lst (.int .i64),.int .i64]⟩
@[reducible] noncomputable def fQ21.us:List (CutU TT (TupT ST fQ21.pout.es)):=[]
noncomputable def fQ21.ent:Ent2 TT:=⟨228,4,fQ21.pin,fQ21.pout,Try.f228.results.toList,fun x=>fQ21.f x.1 x.2.1 x.2.2.1 x.2.2.2⟩
noncomputable def fQ21.ents (k:Nat):Ents TT:=⟨[],[],[]⟩
noncomputable def fQ21.raw (k:Nat) (a0:Int) (a1:Int) (c0_0:List (Int)) (c1_0:Int):Option (Int×(List (Int))×Int):=if 0≤(wr .i64 (a0+(wr .i64 (c1_0*a1)))) then (if (wr .i64 (a0+(wr .i64 (c1_0*a1))))<(c0_0.length:Int) then (some (rd c0_0 (wr .i64 (a0+(wr .i64 (c1_0*a1)))),c0_0,c1_0)) else none) else none
theorem fQ21.clean (k:Nat) (a0:Int) (a1:Int) (c0_0:List (Int)) (c1_0:Int):fQ21.raw k a0 a1 c0_0 c1_0=fQ21.f a0 a1 c0_0 c1_0:=by
 rw [fQ21.raw,fQ21.f]
 simp only [wr_i64]
theorem fQ21.chk (k:Nat) (x:TupT ST fQ21.pin.es):runU TT (calF [] (fQ21.ents k)) (jmps fQ21.us k) (finC fQ21.pout Try.f228.results.toList) Try.f228 none (canonC fQ21.pin x)=fQ21.f x.1 x.2.1 x.2.2.1 x.2.2.2:=Eq.trans (show _=fQ21.raw k x.1 x.2.1 x.2.2.1 x.2.2.2 by kernel_rfl) (fQ21.clean k x.1 x.2.1 x.2.2.1 x.2.2.2)
theorem fQ21.ok:Ent2Ok Try.prog TT (fQ21.ent):=
 fun_of2 tbl mixed 228 Try.f228 Try.func228 rfl (by kernel_rfl) 4 fQ21.pin fQ21.pout (by kernel_rfl) [] fQ21.ents fQ21.us True.intro True.intro (fun k (x:TupT ST fQ21.pin.es)=>fQ21.f x.1 x.2.1 x.2.2.1 x.2.2.2) fQ21.chk (fun k=>EntsOk.mk True.intro True.intro True.intro) 0
mutual
noncomputable def fQ14.l0:Nat→Int→Int→Int→List (Int)→Option (Bool)
 | 0,_,_,_,_=>none
 | k+1,x10,x11,b2_0,b3_0=>if x11<x10 then (fQ14.l1 k x11 x10 x11 b2_0 0 b2_0 b3_0) else (some true)
noncomputable def fQ14.l1:Nat→Int→Int→Int→Int→Int→Int→List (Int)→Option (Bool)
 | 0,_,_,_,_,_,_,_=>none
 | k+1,x6,x10,x11,x14,x15,b2_0,b3_0=>if x15<x14 then (fQ14.l2 k x6 x15 x10 x11 x14 x15 b2_0 0 b2_0 b3_0) else (fQ14.l0 k x10 (wrap64 (x11+1)) b2_0 b3_0)
noncomputable def fQ14.l2:Nat→Int→Int→Int→Int→Int→Int→Int→Int→Int→List (Int)→Option (Bool)
 | 0,_,_,_,_,_,_,_,_,_,_=>none
 | k+1,x6,x7,x10,x11,x14,x15,x18,x19,b2_0,b3_0=>if x19<x18 then ((fQ21.f x6 x7 b3_0 b2_0).bind fun t1=>((fQ21.f x7 x6 t1.2.1 t1.2.2).bind fun t2=>(if t1.1=t2.1 then ((fQ21.f x6 x7 t2.2.1 t2.2.2).bind fun t3=>((fQ21.f t3.1 x19 t3.2.1 t3.2.2).bind fun t4=>((fQ21.f x7 x19 t4.2.1 t4.2.2).bind fun t5=>((fQ21.f x6 t5.1 t5.2.1 t5.2.2).bind fun t6=>(if t4.1=t6.1 then (fQ14.l2 k x6 x7 x10 x11 x14 x15 x18 (wrap64 (x19+1)) t6.2.2 t6.2.1) else (some false)))))) else (some false)))) else (fQ14.l1 k x6 x10 x11 x14 (wrap64 (x15+1)) b2_0 b3_0)
end
noncomputable def fQ14.f (k:Nat) (a0:Int) (l1:List (Int)):Option (Bool):=fQ14.l0 k a0 0 a0 l1
noncomputable def fQ14.l0.c:Cut:=⟨[],[(3,0)],[(2,.ptr 2 0),(5,.clo 228 [.ptr 3 0,.ptr 2 0]),(10,.one),(11,.one)],[(2,[.one]),(3,[.one])],[],[.int .i64,.int .i64,.int .i64,.lst (.int .i64)]⟩
noncomputable def fQ14.l1.c:Cut:=⟨[],[(3,0)],[(2,.ptr 2 0),(5,.clo 228 [.ptr 3 0,.ptr 2 0]),(6,.one),(10,.one),(11,.one),(14,.one),(15,.one)],[(2,[.one]),(3,[.one])],[],[.int .i64,.int .i64,.int .i64,.int .i64,.int .i64,.int .i64,.lst (.int .i64)]⟩
noncomputable def fQ14.l2.c:Cut:=⟨[],[(3,0)],[(2,.ptr 2 0),(5,.clo 228 [.ptr 3 0,.ptr 2 0]),(6,.one),(7,.one),(10,.one),(11,.one),(14,.one),(15,.one),(18,.one),(19,.one)],[(2,[.one]),(3,[.one])],[],[.int .i64,.int .i64,.int .i64,.int .i64,.int .i64,.int .i64,.int .i64,.int .i64,.int .i64,.lst (.int .i64)]⟩
@[reducible] noncomputable def fQ14.us:List (CutU TT (TupT ST [.bool])):=[⟨3,fQ14.l0.c,fun k x=>fQ14.l0 k x.1 x.2.1 x.2.2.1 x.2.2.2⟩,⟨6,fQ14.l1.c,fun k x=>fQ14.l1 k x.1 x.2.1 x.2.2.1 x.2.2.2.1 x.2.2.2.2.1 x.2.2.2.2.2.1 x.2.2.2.2.2.2⟩,⟨9,fQ14.l2.c,fun k x=>fQ14.l2 k x.1 x.2.1 x.2.2.1 x.2.2.2.1 x.2.2.2.2.1 x.2.2.2.2.2.1 x.2.2.2.2.2.2.1 x.2.2.2.2.2.2.2.1 x.2.2.2.2.2.2.2.2.1 x.2.2.2.2.2.2.2.2.2⟩]
noncomputable def fQ14.ent (k:Nat):Ent TT:=⟨142,[.one,.one],[.int .i64,.lst (.int .i64)],.one,[.bool],fun x=>fQ14.f k x.1 x.2⟩
noncomputable def fQ14.ents (k:Nat):Ents TT:=⟨[],[fQ21.ent],[]⟩
theorem fQ14.l0.chk (k:Nat) (x:TupT ST [.int .i64,.int .i64,.int .i64,.lst (.int .i64)]):runU TT (calF [] (fQ14.ents k)) (jmps fQ14.us k) (finK Try.f142 (retK TT (.one) [.bool])) Try.f142 (some 3) (canonC fQ14.l0.c x)=fQ14.l0 (k+1) x.1 x.2.1 x.2.2.1 x.2.2.2:=by kernel_rfl
noncomputable def fQ14.l1.raw (k:Nat) (x6:Int) (x10:Int) (x11:Int) (x14:Int) (x15:Int) (b2_0:Int) (b3_0:List (Int)):Option (Bool):=if x15<x14 then (fQ14.l2 k x6 x15 x10 x11 x14 x15 b2_0 0 b2_0 b3_0) else (fQ14.l0 k x10 (wr .i64 (x11+1)) b2_0 b3_0)
theorem fQ14.l1.clean (k:Nat) (x6:Int) (x10:Int) (x11:Int) (x14:Int) (x15:Int) (b2_0:Int) (b3_0:List (Int)):fQ14.l1.raw k x6 x10 x11 x14 x15 b2_0 b3_0=fQ14.l1 (k+1) x6 x10 x11 x14 x15 b2_0 b3_0:=by
 rw [fQ14.l1.raw,fQ14.l1]
 simp only [wr_i64]
theorem fQ14.l1.chk (k:Nat) (x:TupT ST [.int .i64,.int .i64,.int .i64,.int .i64,.int .i64,.int .i64,.lst (.int .i64)]):runU TT (calF [] (fQ14.ents k)) (jmps fQ14.us k) (finK Try.f142 (retK TT (.one) [.bool])) Try.f142 (some 6) (canonC fQ14.l1.c x)=fQ14.l1 (k+1) x.1 x.2.1 x.2.2.1 x.2.2.2.1 x.2.2.2.2.1 x.2.2.2.2.2.1 x.2.2.2.2.2.2:=Eq.trans (show _=fQ14.l1.raw k x.1 x.2.1 x.2.2.1 x.2.2.2.1 x.2.2.2.2.1 x.2.2.2.2.2.1 x.2.2.2.2.2.2 by kernel_rfl) (fQ14.l1.clean k x.1 x.2.1 x.2.2.1 x.2.2.2.1 x.2.2.2.2.1 x.2.2.2.2.2.1 x.2.2.2.2.2.2)
noncomputable def fQ14.l2.raw (k:Nat) (x6:Int) (x7:Int) (x10:Int) (x11:Int) (x14:Int) (x15:Int) (x18:Int) (x19:Int) (b2_0:Int) (b3_0:List (Int)):Option (Bool):=if x19<x18 then ((fQ21.f x6 x7 b3_0 b2_0).bind fun t1=>((fQ21.f x7 x6 t1.2.1 t1.2.2).bind fun t2=>(if ¬t1.1=t2.1 then (some false) else ((fQ21.f x6 x7 t2.2.1 t2.2.2).bind fun t3=>((fQ21.f t3.1 x19 t3.2.1 t3.2.2).bind fun t4=>((fQ21.f x7 x19 t4.2.1 t4.2.2).bind fun t5=>((fQ21.f x6 t5.1 t5.2.1 t5.2.2).bind fun t6=>(if ¬t4.1=t6.1 then (some false) else (fQ14.l2 k x6 x7 x10 x11 x14 x15 x18 (wr .i64 (x19+1)) t6.2.2 t6.2.1))))))))) else (fQ14.l1 k x6 x10 x11 x14 (wr .i64 (x15+1)) b2_0 b3_0)
theorem fQ14.l2.clean (k:Nat) (x6:Int) (x7:Int) (x10:Int) (x11:Int) (x14:Int) (x15:Int) (x18:Int) (x19:Int) (b2_0:Int) (b3_0:List (Int)):fQ14.l2.raw k x6 x7 x10 x11 x14 x15 x18 x19 b2_0 b3_0=fQ14.l2 (k+1) x6 x7 x10 x11 x14 x15 x18 x19 b2_0 b3_0:=by
 rw [fQ14.l2.raw,fQ14.l2]
 simp only [wr_i64]
 exact ite_congr rfl (fun h0=>bind_cg fun t1=>(bind_cg fun t2=>(Eq.trans (ite_ng _ _) (ite_congr rfl (fun h1=>bind_cg fun t3=>(bind_cg fun t4=>(bind_cg fun t5=>(bind_cg fun t6=>(ite_ng _ _))))) (fun h1=>rfl))))) (fun h0=>rfl)
theorem fQ14.l2.chk (k:Nat) (x:TupT ST [.int .i64,.int .i64,.int .i64,.int .i64,.int .i64,.int .i64,.int .i64,.int .i64,.int .i64,.lst (.int .i64)]):runU TT (calF [] (fQ14.ents k)) (jmps fQ14.us k) (finK Try.f142 (retK TT (.one) [.bool])) Try.f142 (some 9) (canonC fQ14.l2.c x)=fQ14.l2 (k+1) x.1 x.2.1 x.2.2.1 x.2.2.2.1 x.2.2.2.2.1 x.2.2.2.2.2.1 x.2.2.2.2.2.2.1 x.2.2.2.2.2.2.2.1 x.2.2.2.2.2.2.2.2.1 x.2.2.2.2.2.2.2.2.2:=Eq.trans (show _=fQ14.l2.raw k x.1 x.2.1 x.2.2.1 x.2.2.2.1 x.2.2.2.2.1 x.2.2.2.2.2.1 x.2.2.2.2.2.2.1 x.2.2.2.2.2.2.2.1 x.2.2.2.2.2.2.2.2.1 x.2.2.2.2.2.2.2.2.2 by kernel_rfl) (fQ14.l2.clean k x.1 x.2.1 x.2.2.1 x.2.2.2.1 x.2.2.2.2.1 x.2.2.2.2.2.1 x.2.2.2.2.2.2.1 x.2.2.2.2.2.2.2.1 x.2.2.2.2.2.2.2.2.1 x.2.2.2.2.2.2.2.2.2)
theorem fQ14.chk (k:Nat) (x:TupT ST [.int .i64,.lst (.int .i64)]):runU TT (calF [] (fQ14.ents k)) (jmps fQ14.us k) (finK Try.f142 (retK TT (.one) [.bool])) Try.f142 none (canon (args0 0 (argL [.one,.one] [.int .i64,.lst (.int .i64)] x)) [])=fQ14.f k x.1 x.2:=by kernel_rfl
theorem fQ14.ok (k:Nat):EntOk Try.prog TT (fQ14.ent k):=
 fun_of tbl mixed 142 Try.f142 Try.func142 rfl (by kernel_rfl) [.one,.one] [.int .i64,.lst (.int .i64)] (.one) [.bool] (by kernel_rfl) [] fQ14.ents fQ14.us (And.intro (fun _=>rfl) (And.intro (fun _=>rfl) (And.intro (fun _=>rfl) True.intro))) (And.intro fQ14.l0.chk (And.intro fQ14.l1.chk (And.intro fQ14.l2.chk True.intro))) (fun k (x:TupT ST [.int .i64,.lst (.int .i64)])=>fQ14.f k x.1 x.2) fQ14.chk (fun k=>EntsOk.mk True.intro (And.intro fQ21.ok True.intro) True.intro) k
noncomputable def fQ29.f (a0:Int) (c0_0:Int) (c0_1:List (List (Int))):Option (Bool×Int×(List (List (Int)))):=(impl_from.f a0 0 (wrap64 (c0_0 - 1))).bind fun t1=>(some (!t1,c0_0,c0_1))
noncomputable def fQ29.pin:Cut:=⟨[],[(1073741824,1)],[(0,.one),(1,.ptr 1073741824 0)],[(1073741824,[.one,.one])],[],[.int .i64,.int .i64,.lst (.lst (.int .i64))]⟩
noncomputable def fQ29.pout:Cut:=⟨[],[(1073741824,1)],[(3,.one)],[(1073741824,[.one,.one])],[],[.bool,.int .i64,.lst (.lst (.int .i64))]⟩
@[reducible] noncomputable def fQ29.us:List (CutU TT (TupT ST fQ29.pout.es)):=[]
noncomputable def fQ29.ent:Ent2 TT:=⟨141,2,fQ29.pin,fQ29.pout,Try.f141.results.toList,fun x=>fQ29.f x.1 x.2.1 x.2.2⟩
noncomputable def fQ29.ents (k:Nat):Ents TT:=⟨[impl_from.ent],[],[]⟩
noncomputable def fQ29.raw (k:Nat) (a0:Int) (c0_0:Int) (c0_1:List (List (Int))):Option (Bool×Int×(List (List (Int)))):=(impl_from.f a0 0 (wr .i64 (c0_0 - 1))).bind fun t1=>(some (!t1,c0_0,c0_1))
theorem fQ29.clean (k:Nat) (a0:Int) (c0_0:Int) (c0_1:List (List (Int))):fQ29.raw k a0 c0_0 c0_1=fQ29.f a0 c0_0 c0_1:=by
 rw [fQ29.raw,fQ29.f]
 simp only [wr_i64]
theorem fQ29.chk (k:Nat) (x:TupT ST fQ29.pin.es):runU TT (calF [] (fQ29.ents k)) (jmps fQ29.us k) (finC fQ29.pout Try.f141.results.toList) Try.f141 none (canonC fQ29.pin x)=fQ29.f x.1 x.2.1 x.2.2:=Eq.trans (show _=fQ29.raw k x.1 x.2.1 x.2.2 by kernel_rfl) (fQ29.clean k x.1 x.2.1 x.2.2)
theorem fQ29.ok:Ent2Ok Try.prog TT (fQ29.ent):=
 fun_of2 tbl mixed 141 Try.f141 Try.func141 rfl (by kernel_rfl) 2 fQ29.pin fQ29.pout (by kernel_rfl) [] fQ29.ents fQ29.us True.intro True.intro (fun k (x:TupT ST fQ29.pin.es)=>fQ29.f x.1 x.2.1 x.2.2) fQ29.chk (fun k=>EntsOk.mk (And.intro impl_from.ok True.intro) True.intro True.intro) 0
noncomputable def fQ7.l0:Nat→List (Int)→Int→Int→Int→List (List (Int))→Option (Int×Int×(List (List (Int))))
 | 0,_,_,_,_,_=>none
 | k+1,x0,x7,x8,b1073741824_0,b1073741824_1=>if x8<x7 then (if 0≤x8 then (if x8<(x0.length:Int) then ((fQ29.f (rd x0 x8) b1073741824_0 b1073741824_1).bind fun t1=>(if t1.1=true then (some (x8,t1.2.1,t1.2.2)) else (fQ7.l0 k x0 x7 (wrap64 (x8+1)) t1.2.1 t1.2.2))) else none) else none) else (some ((-1),b1073741824_0,b1073741824_1))
noncomputable def fQ7.f (k:Nat) (l0:List (Int)) (c0_0:Int) (c0_1:List (List (Int))):Option (Int×Int×(List (List (Int)))):=fQ7.l0 k l0 (l0.length:Int) 0 c0_0 c0_1
noncomputable def fQ7.pin:Cut:=⟨[0],[(1073741824,1)],[(0,.one),(1,.clo 141 [.ptr 1073741824 0])],[(1073741824,[.one,.one])],[],[.lst (.int .i64),.int .i64,.lst (.lst (.int .i64))]⟩
noncomputable def fQ7.pout:Cut:=⟨[],[(1073741824,1)],[(4,.one)],[(1073741824,[.one,.one])],[],[.int .i64,.int .i64,.lst (.lst (.int .i64))]⟩
noncomputable def fQ7.l0.c:Cut:=⟨[0],[(1073741824,1)],[(0,.one),(1,.clo 141 [.ptr 1073741824 0]),(7,.one),(8,.one)],[(1073741824,[.one,.one])],[],[.lst (.int .i64),.int .i64,.int .i64,.int .i64,.lst (.lst (.int .i64))]⟩
@[reducible] noncomputable def fQ7.us:List (CutU TT (TupT ST fQ7.pout.es)):=[⟨2,fQ7.l0.c,fun k x=>fQ7.l0 k x.1 x.2.1 x.2.2.1 x.2.2.2.1 x.2.2.2.2⟩]
noncomputable def fQ7.ent (k:Nat):Ent2 TT:=⟨227,2,fQ7.pin,fQ7.pout,Try.f227.results.toList,fun x=>fQ7.f k x.1 x.2.1 x.2.2⟩
noncomputable def fQ7.ents (k:Nat):Ents TT:=⟨[],[fQ29.ent],[]⟩
noncomputable def fQ7.l0.raw (k:Nat) (x0:List (Int)) (x7:Int) (x8:Int) (b1073741824_0:Int) (b1073741824_1:List (List (Int))):Option (Int×Int×(List (List (Int)))):=if x8<x7 then (if 0≤x8 then (if x8<(x0.length:Int) then ((fQ29.f (rd x0 x8) b1073741824_0 b1073741824_1).bind fun t1=>(if t1.1=true then (some (x8,t1.2.1,t1.2.2)) else (fQ7.l0 k x0 x7 (wr .i64 (x8+1)) t1.2.1 t1.2.2))) else none) else none) else (some ((-1),b1073741824_0,b1073741824_1))
theorem fQ7.l0.clean (k:Nat) (x0:List (Int)) (x7:Int) (x8:Int) (b1073741824_0:Int) (b1073741824_1:List (List (Int))):fQ7.l0.raw k x0 x7 x8 b1073741824_0 b1073741824_1=fQ7.l0 (k+1) x0 x7 x8 b1073741824_0 b1073741824_1:=by
 rw [fQ7.l0.raw,fQ7.l0]
 simp only [wr_i64]
theorem fQ7.l0.chk (k:Nat) (x:TupT ST [.lst (.int .i64),.int .i64,.int .i64,.int .i64,.lst (.lst (.int .i64))]):runU TT (calF [] (fQ7.ents k)) (jmps fQ7.us k) (finC fQ7.pout Try.f227.results.toList) Try.f227 (some 2) (canonC fQ7.l0.c x)=fQ7.l0 (k+1) x.1 x.2.1 x.2.2.1 x.2.2.2.1 x.2.2.2.2:=Eq.trans (show _=fQ7.l0.raw k x.1 x.2.1 x.2.2.1 x.2.2.2.1 x.2.2.2.2 by kernel_rfl) (fQ7.l0.clean k x.1 x.2.1 x.2.2.1 x.2.2.2.1 x.2.2.2.2)
theorem fQ7.chk (k:Nat) (x:TupT ST fQ7.pin.es):runU TT (calF [] (fQ7.ents k)) (jmps fQ7.us k) (finC fQ7.pout Try.f227.results.toList) Try.f227 none (canonC fQ7.pin x)=fQ7.f k x.1 x.2.1 x.2.2:=by kernel_rfl
theorem fQ7.ok (k:Nat):Ent2Ok Try.prog TT (fQ7.ent k):=
 fun_of2 tbl mixed 227 Try.f227 Try.func227 rfl (by kernel_rfl) 2 fQ7.pin fQ7.pout (by kernel_rfl) [] fQ7.ents fQ7.us (And.intro (fun _=>rfl) True.intro) (And.intro fQ7.l0.chk True.intro) (fun k (x:TupT ST fQ7.pin.es)=>fQ7.f k x.1 x.2.1 x.2.2) fQ7.chk (fun k=>EntsOk.mk True.intro (And.intro fQ29.ok True.intro) True.intro) k
noncomputable def fQ15.f (k:Nat) (l0:List (Int)) (c0_0:Int) (c0_1:List (List (Int))):Option (Bool×Int×(List (List (Int)))):=(fQ7.f k l0 c0_0 c0_1).bind fun t1=>(some (decide (t1.1≥0),t1.2.1,t1.2.2))
noncomputable def fQ15.pin:Cut:=⟨[0],[(1073741824,1)],[(0,.one),(1,.clo 141 [.ptr 1073741824 0])],[(1073741824,[.one,.one])],[],[.lst (.int .i64),.int .i64,.lst (.lst (.int .i64))]⟩
noncomputable def fQ15.pout:Cut:=⟨[],[(1073741824,1)],[(4,.one)],[(1073741824,[.one,.one])],[],[.bool,.int .i64,.lst (.lst (.int .i64))]⟩
@[reducible] noncomputable def fQ15.us:List (CutU TT (TupT ST fQ15.pout.es)):=[]
noncomputable def fQ15.ent (k:Nat):Ent2 TT:=⟨140,2,fQ15.pin,fQ15.pout,Try.f140.results.toList,fun x=>fQ15.f k x.1 x.2.1 x.2.2⟩
noncomputable def fQ15.ents (k:Nat):Ents TT:=⟨[],[fQ7.ent k],[]⟩
theorem fQ15.chk (k:Nat) (x:TupT ST fQ15.pin.es):runU TT (calF [] (fQ15.ents k)) (jmps fQ15.us k) (finC fQ15.pout Try.f140.results.toList) Try.f140 none (canonC fQ15.pin x)=fQ15.f k x.1 x.2.1 x.2.2:=by kernel_rfl
theorem fQ15.ok (k:Nat):Ent2Ok Try.prog TT (fQ15.ent k):=
 fun_of2 tbl mixed 140 Try.f140 Try.func140 rfl (by kernel_rfl) 2 fQ15.pin fQ15.pout (by kernel_rfl) [] fQ15.ents fQ15.us True.intro True.intro (fun k (x:TupT ST fQ15.pin.es)=>fQ15.f k x.1 x.2.1 x.2.2) fQ15.chk (fun k=>EntsOk.mk True.intro (And.intro (fQ7.ok k) True.intro) True.intro) k
noncomputable def fQ33.l0:Nat→List (I_Sym)→Int→Int→Int→List (List (Int))→Option (Bool)
 | 0,_,_,_,_,_=>none
 | k+1,x25,x26,x27,b3_0,b3_1=>if x27<x26 then (if 0≤x27 then (if x27<(x25.length:Int) then (if x27<(b3_1.length:Int) then ((fQ35.f k b3_0 ((rd_I_Sym x25 x27).f1)).bind fun t3=>(if ((rd_Ls_i64 b3_1 x27).length:Int)=t3 then ((fQ15.f k (rd_Ls_i64 b3_1 x27) b3_0 b3_1).bind fun t4=>(if t4.1=true then (some false) else (if ((rd_I_Sym x25 x27).f2)=true then ((fQ14.f k t4.2.1 (rd_Ls_i64 b3_1 x27)).bind fun t5=>(if t5=true then (fQ33.l0 k x25 x26 (wrap64 (x27+1)) t4.2.1 t4.2.2) else (some false))) else (fQ33.l0 k x25 x26 (wrap64 (x27+1)) t4.2.1 t4.2.2)))) else (some false))) else none) else none) else none) else (some true)
noncomputable def fQ33.f (k:Nat) (l0:List (I_Sym)) (a1_0:Int) (l1_1:List (List (Int))):Option (Bool):=(fQ43.f k l0).bind fun t1=>(if t1=true then ((impl_from.f a1_0 1 4).bind fun t2=>(if t2=true then (if (l1_1.length:Int)=(l0.length:Int) then (fQ33.l0 k l0 (l0.length:Int) 0 a1_0 l1_1) else (some false)) else (some false))) else (some false))
noncomputable def fQ33.l0.c:Cut:=⟨[25],[(3,1)],[(3,.ptr 3 0),(25,.one),(26,.one),(27,.one)],[(3,[.one,.one])],[],[.lst (.st 0),.int .i64,.int .i64,.int .i64,.lst (.lst (.int .i64))]⟩
@[reducible] noncomputable def fQ33.us:List (CutU TT (TupT ST [.bool])):=[⟨4,fQ33.l0.c,fun k x=>fQ33.l0 k x.1 x.2.1 x.2.2.1 x.2.2.2.1 x.2.2.2.2⟩]
noncomputable def fQ33.ent (k:Nat):Ent TT:=⟨39,[.one,.agg 2],[.lst (.st 0),.int .i64,.lst (.lst (.int .i64))],.one,[.bool],fun x=>fQ33.f k x.1 x.2.1 x.2.2⟩
noncomputable def fQ33.ents (k:Nat):Ents TT:=⟨[fQ43.ent k,impl_from.ent,fQ35.ent k,fQ14.ent k],[fQ15.ent k],[]⟩
noncomputable def fQ33.l0.raw (k:Nat) (x25:List (I_Sym)) (x26:Int) (x27:Int) (b3_0:Int) (b3_1:List (List (Int))):Option (Bool):=if x27<x26 then (if 0≤x27 then (if x27<(x25.length:Int) then (if 0≤x27 then (if x27<(b3_1.length:Int) then ((fQ35.f k b3_0 ((rd_I_Sym x25 x27).f1)).bind fun t3=>(if ¬((rd_Ls_i64 b3_1 x27).length:Int)=t3 then (some false) else ((fQ15.f k (rd_Ls_i64 b3_1 x27) b3_0 b3_1).bind fun t4=>(if t4.1=true then (some false) else (if ((rd_I_Sym x25 x27).f2)=true then ((fQ14.f k t4.2.1 (rd_Ls_i64 b3_1 x27)).bind fun t5=>(if (!t5)=true then (some false) else (fQ33.l0 k x25 x26 (wr .i64 (x27+1)) t4.2.1 t4.2.2))) else (fQ33.l0 k x25 x26 (wr .i64 (x27+1)) t4.2.1 t4.2.2)))))) else none) else none) else none) else none) else (some true)
theorem fQ33.l0.clean (k:Nat) (x25:List (I_Sym)) (x26:Int) (x27:Int) (b3_0:Int) (b3_1:List (List (Int))):fQ33.l0.raw k x25 x26 x27 b3_0 b3_1=fQ33.l0 (k+1) x25 x26 x27 b3_0 b3_1:=by
 rw [fQ33.l0.raw,fQ33.l0]
 simp only [wr_i64]
 exact ite_congr rfl (fun h0=>ite_congr rfl (fun h1=>ite_congr rfl (fun h2=>Eq.trans (if_pos h1) (ite_congr rfl (fun h3=>bind_cg fun t3=>(Eq.trans (ite_ng _ _) (ite_congr rfl (fun h4=>bind_cg fun t4=>(ite_congr rfl (fun h5=>rfl) (fun h5=>ite_congr rfl (fun h6=>bind_cg fun t5=>(ite_nb _ _ _)) (fun h6=>rfl)))) (fun h4=>rfl)))) (fun h3=>rfl))) (fun h2=>rfl)) (fun h1=>rfl)) (fun h0=>rfl)
theorem fQ33.l0.chk (k:Nat) (x:TupT ST [.lst (.st 0),.int .i64,.int .i64,.int .i64,.lst (.lst (.int .i64))]):runU TT (calF [] (fQ33.ents k)) (jmps fQ33.us k) (finK Try.f39 (retK TT (.one) [.bool])) Try.f39 (some 4) (canonC fQ33.l0.c x)=fQ33.l0 (k+1) x.1 x.2.1 x.2.2.1 x.2.2.2.1 x.2.2.2.2:=Eq.trans (show _=fQ33.l0.raw k x.1 x.2.1 x.2.2.1 x.2.2.2.1 x.2.2.2.2 by kernel_rfl) (fQ33.l0.clean k x.1 x.2.1 x.2.2.1 x.2.2.2.1 x.2.2.2.2)
noncomputable def fQ33.raw (k:Nat) (l0:List (I_Sym)) (a1_0:Int) (l1_1:List (List (Int))):Option (Bool):=(fQ43.f k l0).bind fun t1=>(if (!t1)=true then (some false) else ((impl_from.f a1_0 1 4).bind fun t2=>(if (!t2)=true then (some false) else (if ¬(l1_1.length:Int)=(l0.length:Int) then (some false) else (fQ33.l0 k l0 (l0.length:Int) 0 a1_0 l1_1)))))
theorem fQ33.clean (k:Nat) (l0:List (I_Sym)) (a1_0:Int) (l1_1:List (List (Int))):fQ33.raw k l0 a1_0 l1_1=fQ33.f k l0 a1_0 l1_1:=by
 rw [fQ33.raw,fQ33.f]
 exact bind_cg fun t1=>(Eq.trans (ite_nb _ _ _) (ite_congr rfl (fun h0=>bind_cg fun t2=>(Eq.trans (ite_nb _ _ _) (ite_congr rfl (fun h1=>ite_ng _ _) (fun h1=>rfl)))) (fun h0=>rfl)))
theorem fQ33.chk (k:Nat) (x:TupT ST [.lst (.st 0),.int .i64,.lst (.lst (.int .i64))]):runU TT (calF [] (fQ33.ents k)) (jmps fQ33.us k) (finK Try.f39 (retK TT (.one) [.bool])) Try.f39 none (canon (args0 0 (argL [.one,.agg 2] [.lst (.st 0),.int .i64,.lst (.lst (.int .i64))] x)) [])=fQ33.f k x.1 x.2.1 x.2.2:=Eq.trans (show _=fQ33.raw k x.1 x.2.1 x.2.2 by kernel_rfl) (fQ33.clean k x.1 x.2.1 x.2.2)
theorem fQ33.ok (k:Nat):EntOk Try.prog TT (fQ33.ent k):=
 fun_of tbl mixed 39 Try.f39 Try.func39 rfl (by kernel_rfl) [.one,.agg 2] [.lst (.st 0),.int .i64,.lst (.lst (.int .i64))] (.one) [.bool] (by kernel_rfl) [] fQ33.ents fQ33.us (And.intro (fun _=>rfl) True.intro) (And.intro fQ33.l0.chk True.intro) (fun k (x:TupT ST [.lst (.st 0),.int .i64,.lst (.lst (.int .i64))])=>fQ33.f k x.1 x.2.1 x.2.2) fQ33.chk (fun k=>EntsOk.mk (And.intro (fQ43.ok k) (And.intro impl_from.ok (And.intro (fQ35.ok k) (And.intro (fQ14.ok k) True.intro)))) (And.intro (fQ15.ok k) True.intro) True.intro) k
noncomputable def fQ63.f (l0_0:List (List (Int))):Option (Int×(List (List (Int)))):=some (2,l0_0)
@[reducible] noncomputable def fQ63.us:List (CutU TT (TupT ST [.int .i64,.lst (.lst (.int .i64))])):=[]
noncomputable def fQ63.ent:Ent TT:=⟨157,[.agg 1],[.lst (.lst (.int .i64))],.agg 2,[.int .i64,.lst (.lst (.int .i64))],fun x=>fQ63.f x⟩
noncomputable def fQ63.ents (k:Nat):Ents TT:=⟨[],[],[]⟩
theorem fQ63.chk (k:Nat) (x:TupT ST [.lst (.lst (.int .i64))]):runU TT (calF [] (fQ63.ents k)) (jmps fQ63.us k) (finK Try.f157 (retK TT (.agg 2) [.int .i64,.lst (.lst (.int .i64))])) Try.f157 none (canon (args0 0 (argL [.agg 1] [.lst (.lst (.int .i64))] x)) [])=fQ63.f x:=by kernel_rfl
theorem fQ63.ok:EntOk Try.prog TT (fQ63.ent):=
 fun_of tbl mixed 157 Try.f157 Try.func157 rfl (by kernel_rfl) [.agg 1] [.lst (.lst (.int .i64))] (.agg 2) [.int .i64,.lst (.lst (.int .i64))] (by kernel_rfl) [] fQ63.ents fQ63.us True.intro True.intro (fun k (x:TupT ST [.lst (.lst (.int .i64))])=>fQ63.f x) fQ63.chk (fun k=>EntsOk.mk True.intro True.intro True.intro) 0
noncomputable def fQ60.f (k:Nat) (l0:List (I_Sym)) (l1_0:List (List (Int))):Option (Bool):=(fQ63.f l1_0).bind fun t1=>((fQ33.f k l0 t1.1 t1.2).bind fun t2=>(some t2))
@[reducible] noncomputable def fQ60.us:List (CutU TT (TupT ST [.bool])):=[]
noncomputable def fQ60.ent (k:Nat):Ent TT:=⟨62,[.one,.agg 1],[.lst (.st 0),.lst (.lst (.int .i64))],.one,[.bool],fun x=>fQ60.f k x.1 x.2⟩
noncomputable def fQ60.ents (k:Nat):Ents TT:=⟨[fQ63.ent,fQ33.ent k],[],[]⟩
theorem fQ60.chk (k:Nat) (x:TupT ST [.lst (.st 0),.lst (.lst (.int .i64))]):runU TT (calF [] (fQ60.ents k)) (jmps fQ60.us k) (finK Try.f62 (retK TT (.one) [.bool])) Try.f62 none (canon (args0 0 (argL [.one,.agg 1] [.lst (.st 0),.lst (.lst (.int .i64))] x)) [])=fQ60.f k x.1 x.2:=by kernel_rfl
theorem fQ60.ok (k:Nat):EntOk Try.prog TT (fQ60.ent k):=
 fun_of tbl mixed 62 Try.f62 Try.func62 rfl (by kernel_rfl) [.one,.agg 1] [.lst (.st 0),.lst (.lst (.int .i64))] (.one) [.bool] (by kernel_rfl) [] fQ60.ents fQ60.us True.intro True.intro (fun k (x:TupT ST [.lst (.st 0),.lst (.lst (.int .i64))])=>fQ60.f k x.1 x.2) fQ60.chk (fun k=>EntsOk.mk (And.intro fQ63.ok (And.intro (fQ33.ok k) True.intro)) True.intro True.intro) k
noncomputable def spec_l1In.f (a0:Int) (a1:Int) (a2:Int):Option (Bool):=if a0≥a1 then (some (decide (a0≤a2))) else (some false)
@[reducible] noncomputable def spec_l1In.us:List (CutU TT (TupT ST [.bool])):=[]
noncomputable def spec_l1In.ent:Ent TT:=⟨136,[.one,.one,.one],[.int .i64,.int .i64,.int .i64],.one,[.bool],fun x=>spec_l1In.f x.1 x.2.1 x.2.2⟩
noncomputable def spec_l1In.ents (k:Nat):Ents TT:=⟨[],[],[]⟩
theorem spec_l1In.chk (k:Nat) (x:TupT ST [.int .i64,.int .i64,.int .i64]):runU TT (calF [] (spec_l1In.ents k)) (jmps spec_l1In.us k) (finK Try.f136 (retK TT (.one) [.bool])) Try.f136 none (canon (args0 0 (argL [.one,.one,.one] [.int .i64,.int .i64,.int .i64] x)) [])=spec_l1In.f x.1 x.2.1 x.2.2:=by kernel_rfl
theorem spec_l1In.ok:EntOk Try.prog TT (spec_l1In.ent):=
 fun_of tbl mixed 136 Try.f136 Try.func136 rfl (by kernel_rfl) [.one,.one,.one] [.int .i64,.int .i64,.int .i64] (.one) [.bool] (by kernel_rfl) [] spec_l1In.ents spec_l1In.us True.intro True.intro (fun k (x:TupT ST [.int .i64,.int .i64,.int .i64])=>spec_l1In.f x.1 x.2.1 x.2.2) spec_l1In.chk (fun k=>EntsOk.mk True.intro True.intro True.intro) 0
noncomputable def fQ41.l0:Nat→ByteArray→Int→Option (Bool)
 | 0,_,_=>none
 | k+1,x0,x3=>if x3<(x0.size:Int) then (if 0≤x3 then (if (bt x0 x3)≥97 then (if (bt x0 x3)≤122 then (fQ41.l0 k x0 (wrap64 (x3+1))) else (if x3>0 then (if (bt x0 x3)≥48 then (if (bt x0 x3)≤57 then (fQ41.l0 k x0 (wrap64 (x3+1))) else (some false)) else (some false)) else (some false))) else (if x3>0 then (if (bt x0 x3)≥48 then (if (bt x0 x3)≤57 then (fQ41.l0 k x0 (wrap64 (x3+1))) else (some false)) else (some false)) else (some false))) else none) else ((spec_l1In.f (x0.size:Int) 1 8).bind fun t1=>(some t1))
noncomputable def fQ41.f (k:Nat) (a0:ByteArray):Option (Bool):=fQ41.l0 k a0 0
noncomputable def fQ41.l0.c:Cut:=⟨[],[],[(0,.one),(3,.one)],[],[],[.str,.int .i64]⟩
@[reducible] noncomputable def fQ41.us:List (CutU TT (TupT ST [.bool])):=[⟨2,fQ41.l0.c,fun k x=>fQ41.l0 k x.1 x.2⟩]
noncomputable def fQ41.ent (k:Nat):Ent TT:=⟨236,[.one],[.str],.one,[.bool],fun x=>fQ41.f k x⟩
noncomputable def fQ41.ents (k:Nat):Ents TT:=⟨[spec_l1In.ent],[],[]⟩
noncomputable def fQ41.l0.raw (k:Nat) (x0:ByteArray) (x3:Int):Option (Bool):=if x3<(x0.size:Int) then (if 0≤x3 then (if x3<(x0.size:Int) then (if (bt x0 x3)≥97 then (if 0≤x3 then (if x3<(x0.size:Int) then (if (bt x0 x3)≤122 then (fQ41.l0 k x0 (wr .i64 (x3+1))) else (if x3>0 then (if 0≤x3 then (if x3<(x0.size:Int) then (if (bt x0 x3)≥48 then (if 0≤x3 then (if x3<(x0.size:Int) then (if ¬((bt x0 x3)≤57) then (some false) else (fQ41.l0 k x0 (wr .i64 (x3+1)))) else none) else none) else (some false)) else none) else none) else (some false))) else none) else none) else (if x3>0 then (if 0≤x3 then (if x3<(x0.size:Int) then (if (bt x0 x3)≥48 then (if 0≤x3 then (if x3<(x0.size:Int) then (if ¬((bt x0 x3)≤57) then (some false) else (fQ41.l0 k x0 (wr .i64 (x3+1)))) else none) else none) else (some false)) else none) else none) else (some false))) else none) else none) else ((spec_l1In.f (x0.size:Int) 1 8).bind fun t1=>(some t1))
theorem fQ41.l0.clean (k:Nat) (x0:ByteArray) (x3:Int):fQ41.l0.raw k x0 x3=fQ41.l0 (k+1) x0 x3:=by
 rw [fQ41.l0.raw,fQ41.l0]
 simp only [wr_i64]
 exact ite_congr rfl (fun h0=>ite_congr rfl (fun h1=>Eq.trans (if_pos h0) (ite_congr rfl (fun h2=>Eq.trans (if_pos h1) (Eq.trans (if_pos h0) (ite_congr rfl (fun h3=>rfl) (fun h3=>ite_congr rfl (fun h4=>Eq.trans (if_pos h1) (Eq.trans (if_pos h0) (ite_congr rfl (fun h5=>Eq.trans (if_pos h1) (Eq.trans (if_pos h0) (ite_ng _ _))) (fun h5=>rfl)))) (fun h4=>rfl))))) (fun h2=>ite_congr rfl (fun h3=>Eq.trans (if_pos h1) (Eq.trans (if_pos h0) (ite_congr rfl (fun h4=>Eq.trans (if_pos h1) (Eq.trans (if_pos h0) (ite_ng _ _))) (fun h4=>rfl)))) (fun h3=>rfl)))) (fun h1=>rfl)) (fun h0=>rfl)
theorem fQ41.l0.chk (k:Nat) (x:TupT ST [.str,.int .i64]):runU TT (calF [] (fQ41.ents k)) (jmps fQ41.us k) (finK Try.f236 (retK TT (.one) [.bool])) Try.f236 (some 2) (canonC fQ41.l0.c x)=fQ41.l0 (k+1) x.1 x.2:=Eq.trans (show _=fQ41.l0.raw k x.1 x.2 by kernel_rfl) (fQ41.l0.clean k x.1 x.2)
theorem fQ41.chk (k:Nat) (x:TupT ST [.str]):runU TT (calF [] (fQ41.ents k)) (jmps fQ41.us k) (finK Try.f236 (retK TT (.one) [.bool])) Try.f236 none (canon (args0 0 (argL [.one] [.str] x)) [])=fQ41.f k x:=by kernel_rfl
theorem fQ41.ok (k:Nat):EntOk Try.prog TT (fQ41.ent k):=
 fun_of tbl mixed 236 Try.f236 Try.func236 rfl (by kernel_rfl) [.one] [.str] (.one) [.bool] (by kernel_rfl) [] fQ41.ents fQ41.us (And.intro (fun _=>rfl) True.intro) (And.intro fQ41.l0.chk True.intro) (fun k (x:TupT ST [.str])=>fQ41.f k x) fQ41.chk (fun k=>EntsOk.mk (And.intro spec_l1In.ok True.intro) True.intro True.intro) k
noncomputable def fQ50.l0:Nat→List (I_Sym)→ByteArray→Int→Option (Int)
 | 0,_,_,_=>none
 | k+1,x0,x1,x5=>if x5<(x0.length:Int) then (if 0≤x5 then (if ((rd_I_Sym x0 x5).f0)=x1 then (some x5) else (fQ50.l0 k x0 x1 (wrap64 (x5+1)))) else none) else (some (-1))
noncomputable def fQ50.f (k:Nat) (l0:List (I_Sym)) (a1:ByteArray):Option (Int):=fQ50.l0 k l0 a1 0
noncomputable def fQ50.l0.c:Cut:=⟨[0],[],[(0,.one),(1,.one),(5,.one)],[],[],[.lst (.st 0),.str,.int .i64]⟩
@[reducible] noncomputable def fQ50.us:List (CutU TT (TupT ST [.int .i64])):=[⟨2,fQ50.l0.c,fun k x=>fQ50.l0 k x.1 x.2.1 x.2.2⟩]
noncomputable def fQ50.ent (k:Nat):Ent TT:=⟨237,[.one,.one],[.lst (.st 0),.str],.one,[.int .i64],fun x=>fQ50.f k x.1 x.2⟩
noncomputable def fQ50.ents (k:Nat):Ents TT:=⟨[],[],[]⟩
noncomputable def fQ50.l0.raw (k:Nat) (x0:List (I_Sym)) (x1:ByteArray) (x5:Int):Option (Int):=if x5<(x0.length:Int) then (if 0≤x5 then (if x5<(x0.length:Int) then (if ((rd_I_Sym x0 x5).f0)=x1 then (some x5) else (fQ50.l0 k x0 x1 (wr .i64 (x5+1)))) else none) else none) else (some (-1))
theorem fQ50.l0.clean (k:Nat) (x0:List (I_Sym)) (x1:ByteArray) (x5:Int):fQ50.l0.raw k x0 x1 x5=fQ50.l0 (k+1) x0 x1 x5:=by
 rw [fQ50.l0.raw,fQ50.l0]
 simp only [wr_i64]
 exact ite_congr rfl (fun h0=>ite_congr rfl (fun h1=>if_pos h0) (fun h1=>rfl)) (fun h0=>rfl)
theorem fQ50.l0.chk (k:Nat) (x:TupT ST [.lst (.st 0),.str,.int .i64]):runU TT (calF [] (fQ50.ents k)) (jmps fQ50.us k) (finK Try.f237 (retK TT (.one) [.int .i64])) Try.f237 (some 2) (canonC fQ50.l0.c x)=fQ50.l0 (k+1) x.1 x.2.1 x.2.2:=Eq.trans (show _=fQ50.l0.raw k x.1 x.2.1 x.2.2 by kernel_rfl) (fQ50.l0.clean k x.1 x.2.1 x.2.2)
theorem fQ50.chk (k:Nat) (x:TupT ST [.lst (.st 0),.str]):runU TT (calF [] (fQ50.ents k)) (jmps fQ50.us k) (finK Try.f237 (retK TT (.one) [.int .i64])) Try.f237 none (canon (args0 0 (argL [.one,.one] [.lst (.st 0),.str] x)) [])=fQ50.f k x.1 x.2:=by kernel_rfl
theorem fQ50.ok (k:Nat):EntOk Try.prog TT (fQ50.ent k):=
 fun_of tbl mixed 237 Try.f237 Try.func237 rfl (by kernel_rfl) [.one,.one] [.lst (.st 0),.str] (.one) [.int .i64] (by kernel_rfl) [] fQ50.ents fQ50.us (And.intro (fun _=>rfl) True.intro) (And.intro fQ50.l0.chk True.intro) (fun k (x:TupT ST [.lst (.st 0),.str])=>fQ50.f k x.1 x.2) fQ50.chk (fun k=>EntsOk.mk True.intro True.intro True.intro) k
noncomputable def fQ49.l0:Nat→List (I_Sym)→Int→Option (Bool)
 | 0,_,_=>none
 | k+1,x0,x3=>if x3<(x0.length:Int) then (if 0≤x3 then ((fQ41.f k ((rd_I_Sym x0 x3).f0)).bind fun t1=>(if t1=true then ((fQ50.f k x0 ((rd_I_Sym x0 x3).f0)).bind fun t2=>(if t2=x3 then ((spec_l1In.f ((rd_I_Sym x0 x3).f1) 0 3).bind fun t3=>(if t3=true then (if ((rd_I_Sym x0 x3).f2)=true then (if ((rd_I_Sym x0 x3).f1)=2 then (fQ49.l0 k x0 (wrap64 (x3+1))) else (some false)) else (fQ49.l0 k x0 (wrap64 (x3+1)))) else (some false))) else (some false))) else (some false))) else none) else ((spec_l1In.f (x0.length:Int) 1 8).bind fun t4=>(if t4=true then (if 0<(x0.length:Int) then (some (decide (((rd_I_Sym x0 0).f0)=(⟨#[116,116]⟩:ByteArray))&&(decide (((rd_I_Sym x0 0).f1)=0)&&(decide (((rd_I_Sym x0 0).f2)=false)&&true)))) else none) else (some false)))
noncomputable def fQ49.f (k:Nat) (l0:List (I_Sym)):Option (Bool):=fQ49.l0 k l0 0
noncomputable def fQ49.l0.c:Cut:=⟨[0],[],[(0,.one),(3,.one)],[],[],[.lst (.st 0),.int .i64]⟩
@[reducible] noncomputable def fQ49.us:List (CutU TT (TupT ST [.bool])):=[⟨2,fQ49.l0.c,fun k x=>fQ49.l0 k x.1 x.2⟩]
noncomputable def fQ49.ent (k:Nat):Ent TT:=⟨158,[.one],[.lst (.st 0)],.one,[.bool],fun x=>fQ49.f k x⟩
noncomputable def fQ49.ents (k:Nat):Ents TT:=⟨[fQ41.ent k,fQ50.ent k,spec_l1In.ent],[],[]⟩
noncomputable def fQ49.l0.raw (k:Nat) (x0:List (I_Sym)) (x3:Int):Option (Bool):=if x3<(x0.length:Int) then (if 0≤x3 then (if x3<(x0.length:Int) then ((fQ41.f k ((rd_I_Sym x0 x3).f0)).bind fun t1=>(if (!t1)=true then (some false) else (if 0≤x3 then (if x3<(x0.length:Int) then ((fQ50.f k x0 ((rd_I_Sym x0 x3).f0)).bind fun t2=>(if ¬t2=x3 then (some false) else (if 0≤x3 then (if x3<(x0.length:Int) then ((spec_l1In.f ((rd_I_Sym x0 x3).f1) 0 3).bind fun t3=>(if (!t3)=true then (some false) else (if 0≤x3 then (if x3<(x0.length:Int) then (if ((rd_I_Sym x0 x3).f2)=true then (if 0≤x3 then (if x3<(x0.length:Int) then (if ¬((rd_I_Sym x0 x3).f1)=2 then (some false) else (fQ49.l0 k x0 (wr .i64 (x3+1)))) else none) else none) else (fQ49.l0 k x0 (wr .i64 (x3+1)))) else none) else none))) else none) else none))) else none) else none))) else none) else none) else ((spec_l1In.f (x0.length:Int) 1 8).bind fun t4=>(if t4=true then (if (0:Int)≤0 then (if 0<(x0.length:Int) then (some (decide (((rd_I_Sym x0 0).f0)=(⟨#[116,116]⟩:ByteArray))&&(decide (((rd_I_Sym x0 0).f1)=0)&&(decide (((rd_I_Sym x0 0).f2)=false)&&true)))) else none) else none) else (some false)))
theorem fQ49.l0.clean (k:Nat) (x0:List (I_Sym)) (x3:Int):fQ49.l0.raw k x0 x3=fQ49.l0 (k+1) x0 x3:=by
 rw [fQ49.l0.raw,fQ49.l0]
 simp only [wr_i64]
 exact ite_congr rfl (fun h0=>ite_congr rfl (fun h1=>Eq.trans (if_pos h0) (bind_cg fun t1=>(Eq.trans (ite_nb _ _ _) (ite_congr rfl (fun h2=>Eq.trans (if_pos h1) (Eq.trans (if_pos h0) (bind_cg fun t2=>(Eq.trans (ite_ng _ _) (ite_congr rfl (fun h3=>Eq.trans (if_pos h1) (Eq.trans (if_pos h0) (bind_cg fun t3=>(Eq.trans (ite_nb _ _ _) (ite_congr rfl (fun h4=>Eq.trans (if_pos h1) (Eq.trans (if_pos h0) (ite_congr rfl (fun h5=>Eq.trans (if_pos h1) (Eq.trans (if_pos h0) (ite_ng _ _))) (fun h5=>rfl)))) (fun h4=>rfl)))))) (fun h3=>rfl)))))) (fun h2=>rfl))))) (fun h1=>rfl)) (fun h0=>bind_cg fun t4=>(ite_congr rfl (fun h1=>if_pos (by decide)) (fun h1=>rfl)))
theorem fQ49.l0.chk (k:Nat) (x:TupT ST [.lst (.st 0),.int .i64]):runU TT (calF [] (fQ49.ents k)) (jmps fQ49.us k) (finK Try.f158 (retK TT (.one) [.bool])) Try.f158 (some 2) (canonC fQ49.l0.c x)=fQ49.l0 (k+1) x.1 x.2:=Eq.trans (show _=fQ49.l0.raw k x.1 x.2 by kernel_rfl) (fQ49.l0.clean k x.1 x.2)
theorem fQ49.chk (k:Nat) (x:TupT ST [.lst (.st 0)]):runU TT (calF [] (fQ49.ents k)) (jmps fQ49.us k) (finK Try.f158 (retK TT (.one) [.bool])) Try.f158 none (canon (args0 0 (argL [.one] [.lst (.st 0)] x)) [])=fQ49.f k x:=by kernel_rfl
theorem fQ49.ok (k:Nat):EntOk Try.prog TT (fQ49.ent k):=
 fun_of tbl mixed 158 Try.f158 Try.func158 rfl (by kernel_rfl) [.one] [.lst (.st 0)] (.one) [.bool] (by kernel_rfl) [] fQ49.ents fQ49.us (And.intro (fun _=>rfl) True.intro) (And.intro fQ49.l0.chk True.intro) (fun k (x:TupT ST [.lst (.st 0)])=>fQ49.f k x) fQ49.chk (fun k=>EntsOk.mk (And.intro (fQ41.ok k) (And.intro (fQ50.ok k) (And.intro spec_l1In.ok True.intro))) True.intro True.intro) k
mutual
noncomputable def fQ44.l0:Nat→Int→Int→Int→Int→List (I_Term)→Option (Int)
 | 0,_,_,_,_,_=>none
 | k+1,x3,x4,b1_0,b1_1,b1_2=>if x4<(b1_2.length:Int) then (if 0≤x4 then ((fQ44.f k ((rd_I_Term b1_2 x4).f0) ((rd_I_Term b1_2 x4).f1) ((rd_I_Term b1_2 x4).f2)).bind fun t1=>(fQ44.l0 k (wrap64 (x3+t1)) (wrap64 (x4+1)) b1_0 b1_1 b1_2)) else none) else (some x3)
noncomputable def fQ44.f:Nat→Int→Int→List (I_Term)→Option (Int)
 | 0,_,_,_=>none
 | k+1,a0_0,a0_1,l0_2=>fQ44.l0 k 1 0 a0_0 a0_1 l0_2
end
noncomputable def fQ44.ent (k:Nat):Ent TT:=⟨159,[.agg 3],[.int .i64,.int .i64,.lst (.st 3)],.one,[.int .i64],fun x=>fQ44.f k x.1 x.2.1 x.2.2⟩
noncomputable def fQ44.l0.c:Cut:=⟨[],[(1,2)],[(1,.ptr 1 0),(3,.one),(4,.one)],[(1,[.one,.one,.one])],[],[.int .i64,.int .i64,.int .i64,.int .i64,.lst (.st 3)]⟩
@[reducible] noncomputable def fQ44.us:List (CutU TT (TupT ST [.int .i64])):=[⟨3,fQ44.l0.c,fun k x=>fQ44.l0 k x.1 x.2.1 x.2.2.1 x.2.2.2.1 x.2.2.2.2⟩]
noncomputable def fQ44.ents (k:Nat):Ents TT:=⟨[fQ44.ent k],[],[]⟩
noncomputable def fQ44.l0.raw (k:Nat) (x3:Int) (x4:Int) (b1_0:Int) (b1_1:Int) (b1_2:List (I_Term)):Option (Int):=if x4<(b1_2.length:Int) then (if 0≤x4 then (if x4<(b1_2.length:Int) then ((fQ44.f k ((rd_I_Term b1_2 x4).f0) ((rd_I_Term b1_2 x4).f1) ((rd_I_Term b1_2 x4).f2)).bind fun t1=>(fQ44.l0 k (wr .i64 (x3+t1)) (wr .i64 (x4+1)) b1_0 b1_1 b1_2)) else none) else none) else (some x3)
theorem fQ44.l0.clean (k:Nat) (x3:Int) (x4:Int) (b1_0:Int) (b1_1:Int) (b1_2:List (I_Term)):fQ44.l0.raw k x3 x4 b1_0 b1_1 b1_2=fQ44.l0 (k+1) x3 x4 b1_0 b1_1 b1_2:=by
 rw [fQ44.l0.raw,fQ44.l0]
 simp only [wr_i64]
 exact ite_congr rfl (fun h0=>ite_congr rfl (fun h1=>if_pos h0) (fun h1=>rfl)) (fun h0=>rfl)
theorem fQ44.l0.chk (k:Nat) (x:TupT ST [.int .i64,.int .i64,.int .i64,.int .i64,.lst (.st 3)]):runU TT (calF [] (fQ44.ents k)) (jmps fQ44.us k) (finK Try.f159 (retK TT (.one) [.int .i64])) Try.f159 (some 3) (canonC fQ44.l0.c x)=fQ44.l0 (k+1) x.1 x.2.1 x.2.2.1 x.2.2.2.1 x.2.2.2.2:=Eq.trans (show _=fQ44.l0.raw k x.1 x.2.1 x.2.2.1 x.2.2.2.1 x.2.2.2.2 by kernel_rfl) (fQ44.l0.clean k x.1 x.2.1 x.2.2.1 x.2.2.2.1 x.2.2.2.2)
theorem fQ44.chk (k:Nat) (x:TupT ST [.int .i64,.int .i64,.lst (.st 3)]):runU TT (calF [] (fQ44.ents k)) (jmps fQ44.us k) (finK Try.f159 (retK TT (.one) [.int .i64])) Try.f159 none (canon (args0 0 (argL [.agg 3] [.int .i64,.int .i64,.lst (.st 3)] x)) [])=fQ44.f (k+1) x.1 x.2.1 x.2.2:=by kernel_rfl
theorem fQ44.grp:∀k:Nat,EachU (EntOk Try.prog TT) [fQ44.ent k]∧EachU (Ent2Ok Try.prog TT) []:=by
 intro k
 induction k using Nat.strongRecOn with
 | ind k ih=>
  exact And.intro (And.intro (fun_in tbl mixed 159 Try.f159 Try.func159 rfl (by kernel_rfl) [.agg 3] [.int .i64,.int .i64,.lst (.st 3)] (.one) [.int .i64] (by kernel_rfl) [] fQ44.ents fQ44.us (And.intro (fun _=>rfl) True.intro) (And.intro fQ44.l0.chk True.intro) (fun k (x:TupT ST [.int .i64,.int .i64,.lst (.st 3)])=>fQ44.f k x.1 x.2.1 x.2.2) (fun _=>rfl) fQ44.chk k (fun j h=>EntsOk.mk (And.intro (ih j h).1.1 True.intro) True.intro True.intro)) True.intro) True.intro
theorem fQ44.ok (k:Nat):EntOk Try.prog TT (fQ44.ent k):=(fQ44.grp k).1.1
mutual
noncomputable def fQ25.l0:Nat→Int→Int→Int→List (I_Term)→Int→Int→List (I_Term)→Option (Bool)
 | 0,_,_,_,_,_,_,_=>none
 | k+1,x5,b2_0,b2_1,b2_2,b3_0,b3_1,b3_2=>if x5<(b2_2.length:Int) then (if 0≤x5 then (if x5<(b3_2.length:Int) then ((fQ25.f k ((rd_I_Term b2_2 x5).f0) ((rd_I_Term b2_2 x5).f1) ((rd_I_Term b2_2 x5).f2) ((rd_I_Term b3_2 x5).f0) ((rd_I_Term b3_2 x5).f1) ((rd_I_Term b3_2 x5).f2)).bind fun t1=>(if t1=true then (fQ25.l0 k (wrap64 (x5+1)) b2_0 b2_1 b2_2 b3_0 b3_1 b3_2) else (some false))) else none) else none) else (some true)
noncomputable def fQ25.f:Nat→Int→Int→List (I_Term)→Int→Int→List (I_Term)→Option (Bool)
 | 0,_,_,_,_,_,_=>none
 | k+1,a0_0,a0_1,l0_2,a1_0,a1_1,l1_2=>if a0_0=a1_0 then (if a0_1=a1_1 then (if (l0_2.length:Int)=(l1_2.length:Int) then (fQ25.l0 k 0 a0_0 a0_1 l0_2 a1_0 a1_1 l1_2) else (some false)) else (some false)) else (some false)
end
noncomputable def fQ25.ent (k:Nat):Ent TT:=⟨269,[.agg 3,.agg 3],[.int .i64,.int .i64,.lst (.st 3),.int .i64,.int .i64,.lst (.st 3)],.one,[.bool],fun x=>fQ25.f k x.1 x.2.1 x.2.2.1 x.2.2.2.1 x.2.2.2.2.1 x.2.2.2.2.2⟩
noncomputable def fQ25.l0.c:Cut:=⟨[],[(2,2),(3,2)],[(2,.ptr 2 0),(3,.ptr 3 0),(5,.one)],[(2,[.one,.one,.one]),(3,[.one,.one,.one])],[],[.int .i64,.int .i64,.int .i64,.lst (.st 3),.int .i64,.int .i64,.lst (.st 3)]⟩
@[reducible] noncomputable def fQ25.us:List (CutU TT (TupT ST [.bool])):=[⟨4,fQ25.l0.c,fun k x=>fQ25.l0 k x.1 x.2.1 x.2.2.1 x.2.2.2.1 x.2.2.2.2.1 x.2.2.2.2.2.1 x.2.2.2.2.2.2⟩]
noncomputable def fQ25.ents (k:Nat):Ents TT:=⟨[fQ25.ent k],[],[]⟩
noncomputable def fQ25.l0.raw (k:Nat) (x5:Int) (b2_0:Int) (b2_1:Int) (b2_2:List (I_Term)) (b3_0:Int) (b3_1:Int) (b3_2:List (I_Term)):Option (Bool):=if x5<(b2_2.length:Int) then (if 0≤x5 then (if x5<(b2_2.length:Int) then (if 0≤x5 then (if x5<(b3_2.length:Int) then ((fQ25.f k ((rd_I_Term b2_2 x5).f0) ((rd_I_Term b2_2 x5).f1) ((rd_I_Term b2_2 x5).f2) ((rd_I_Term b3_2 x5).f0) ((rd_I_Term b3_2 x5).f1) ((rd_I_Term b3_2 x5).f2)).bind fun t1=>(if (!t1)=true then (some false) else (fQ25.l0 k (wr .i64 (x5+1)) b2_0 b2_1 b2_2 b3_0 b3_1 b3_2))) else none) else none) else none) else none) else (some true)
theorem fQ25.l0.clean (k:Nat) (x5:Int) (b2_0:Int) (b2_1:Int) (b2_2:List (I_Term)) (b3_0:Int) (b3_1:Int) (b3_2:List (I_Term)):fQ25.l0.raw k x5 b2_0 b2_1 b2_2 b3_0 b3_1 b3_2=fQ25.l0 (k+1) x5 b2_0 b2_1 b2_2 b3_0 b3_1 b3_2:=by
 rw [fQ25.l0.raw,fQ25.l0]
 simp only [wr_i64]
 exact ite_congr rfl (fun h0=>ite_congr rfl (fun h1=>Eq.trans (if_pos h0) (Eq.trans (if_pos h1) (ite_congr rfl (fun h2=>bind_cg fun t1=>(ite_nb _ _ _)) (fun h2=>rfl)))) (fun h1=>rfl)) (fun h0=>rfl)
theorem fQ25.l0.chk (k:Nat) (x:TupT ST [.int .i64,.int .i64,.int .i64,.lst (.st 3),.int .i64,.int .i64,.lst (.st 3)]):runU TT (calF [] (fQ25.ents k)) (jmps fQ25.us k) (finK Try.f269 (retK TT (.one) [.bool])) Try.f269 (some 4) (canonC fQ25.l0.c x)=fQ25.l0 (k+1) x.1 x.2.1 x.2.2.1 x.2.2.2.1 x.2.2.2.2.1 x.2.2.2.2.2.1 x.2.2.2.2.2.2:=Eq.trans (show _=fQ25.l0.raw k x.1 x.2.1 x.2.2.1 x.2.2.2.1 x.2.2.2.2.1 x.2.2.2.2.2.1 x.2.2.2.2.2.2 by kernel_rfl) (fQ25.l0.clean k x.1 x.2.1 x.2.2.1 x.2.2.2.1 x.2.2.2.2.1 x.2.2.2.2.2.1 x.2.2.2.2.2.2)
noncomputable def fQ25.raw (k:Nat) (a0_0:Int) (a0_1:Int) (l0_2:List (I_Term)) (a1_0:Int) (a1_1:Int) (l1_2:List (I_Term)):Option (Bool):=if ¬a0_0=a1_0 then (some false) else (if ¬a0_1=a1_1 then (some false) else (if ¬(l0_2.length:Int)=(l1_2.length:Int) then (some false) else (fQ25.l0 k 0 a0_0 a0_1 l0_2 a1_0 a1_1 l1_2)))
theorem fQ25.clean (k:Nat) (a0_0:Int) (a0_1:Int) (l0_2:List (I_Term)) (a1_0:Int) (a1_1:Int) (l1_2:List (I_Term)):fQ25.raw k a0_0 a0_1 l0_2 a1_0 a1_1 l1_2=fQ25.f (k+1) a0_0 a0_1 l0_2 a1_0 a1_1 l1_2:=by
 rw [fQ25.raw,fQ25.f]
 exact Eq.trans (ite_ng _ _) (ite_congr rfl (fun h0=>Eq.trans (ite_ng _ _) (ite_congr rfl (fun h1=>ite_ng _ _) (fun h1=>rfl))) (fun h0=>rfl))
theorem fQ25.chk (k:Nat) (x:TupT ST [.int .i64,.int .i64,.lst (.st 3),.int .i64,.int .i64,.lst (.st 3)]):runU TT (calF [] (fQ25.ents k)) (jmps fQ25.us k) (finK Try.f269 (retK TT (.one) [.bool])) Try.f269 none (canon (args0 0 (argL [.agg 3,.agg 3] [.int .i64,.int .i64,.lst (.st 3),.int .i64,.int .i64,.lst (.st 3)] x)) [])=fQ25.f (k+1) x.1 x.2.1 x.2.2.1 x.2.2.2.1 x.2.2.2.2.1 x.2.2.2.2.2:=Eq.trans (show _=fQ25.raw k x.1 x.2.1 x.2.2.1 x.2.2.2.1 x.2.2.2.2.1 x.2.2.2.2.2 by kernel_rfl) (fQ25.clean k x.1 x.2.1 x.2.2.1 x.2.2.2.1 x.2.2.2.2.1 x.2.2.2.2.2)
theorem fQ25.grp:∀k:Nat,EachU (EntOk Try.prog TT) [fQ25.ent k]∧EachU (Ent2Ok Try.prog TT) []:=by
 intro k
 induction k using Nat.strongRecOn with
 | ind k ih=>
  exact And.intro (And.intro (fun_in tbl mixed 269 Try.f269 Try.func269 rfl (by kernel_rfl) [.agg 3,.agg 3] [.int .i64,.int .i64,.lst (.st 3),.int .i64,.int .i64,.lst (.st 3)] (.one) [.bool] (by kernel_rfl) [] fQ25.ents fQ25.us (And.intro (fun _=>rfl) True.intro) (And.intro fQ25.l0.chk True.intro) (fun k (x:TupT ST [.int .i64,.int .i64,.lst (.st 3),.int .i64,.int .i64,.lst (.st 3)])=>fQ25.f k x.1 x.2.1 x.2.2.1 x.2.2.2.1 x.2.2.2.2.1 x.2.2.2.2.2) (fun _=>rfl) fQ25.chk k (fun j h=>EntsOk.mk (And.intro (ih j h).1.1 True.intro) True.intro True.intro)) True.intro) True.intro
theorem fQ25.ok (k:Nat):EntOk Try.prog TT (fQ25.ent k):=(fQ25.grp k).1.1
mutual
noncomputable def fQ28.l0:Nat→Int→Int→Int→List (I_Term)→Int→Int→List (I_Term)→Option (Bool)
 | 0,_,_,_,_,_,_,_=>none
 | k+1,x5,b2_0,b2_1,b2_2,b3_0,b3_1,b3_2=>if x5<(b2_2.length:Int) then (if 0≤x5 then (if x5<(b3_2.length:Int) then ((fQ25.f k ((rd_I_Term b2_2 x5).f0) ((rd_I_Term b2_2 x5).f1) ((rd_I_Term b2_2 x5).f2) ((rd_I_Term b3_2 x5).f0) ((rd_I_Term b3_2 x5).f1) ((rd_I_Term b3_2 x5).f2)).bind fun t1=>(if t1=true then (fQ28.l0 k (wrap64 (x5+1)) b2_0 b2_1 b2_2 b3_0 b3_1 b3_2) else ((fQ28.f k ((rd_I_Term b2_2 x5).f0) ((rd_I_Term b2_2 x5).f1) ((rd_I_Term b2_2 x5).f2) ((rd_I_Term b3_2 x5).f0) ((rd_I_Term b3_2 x5).f1) ((rd_I_Term b3_2 x5).f2)).bind fun t2=>(some t2)))) else none) else none) else (some false)
noncomputable def fQ28.f:Nat→Int→Int→List (I_Term)→Int→Int→List (I_Term)→Option (Bool)
 | 0,_,_,_,_,_,_=>none
 | k+1,a0_0,a0_1,l0_2,a1_0,a1_1,l1_2=>if a0_0=a1_0 then (if a0_1=a1_1 then (if (l0_2.length:Int)=(l1_2.length:Int) then (fQ28.l0 k 0 a0_0 a0_1 l0_2 a1_0 a1_1 l1_2) else (some (decide ((l0_2.length:Int)<(l1_2.length:Int))))) else (some (decide (a0_1<a1_1)))) else (some (decide (a0_0<a1_0)))
end
noncomputable def fQ28.ent (k:Nat):Ent TT:=⟨238,[.agg 3,.agg 3],[.int .i64,.int .i64,.lst (.st 3),.int .i64,.int .i64,.lst (.st 3)],.one,[.bool],fun x=>fQ28.f k x.1 x.2.1 x.2.2.1 x.2.2.2.1 x.2.2.2.2.1 x.2.2.2.2.2⟩
noncomputable def fQ28.l0.c:Cut:=⟨[],[(2,2),(3,2)],[(2,.ptr 2 0),(3,.ptr 3 0),(5,.one)],[(2,[.one,.one,.one]),(3,[.one,.one,.one])],[],[.int .i64,.int .i64,.int .i64,.lst (.st 3),.int .i64,.int .i64,.lst (.st 3)]⟩
@[reducible] noncomputable def fQ28.us:List (CutU TT (TupT ST [.bool])):=[⟨8,fQ28.l0.c,fun k x=>fQ28.l0 k x.1 x.2.1 x.2.2.1 x.2.2.2.1 x.2.2.2.2.1 x.2.2.2.2.2.1 x.2.2.2.2.2.2⟩]
noncomputable def fQ28.ents (k:Nat):Ents TT:=⟨[fQ25.ent k,fQ28.ent k],[],[]⟩
noncomputable def fQ28.l0.raw (k:Nat) (x5:Int) (b2_0:Int) (b2_1:Int) (b2_2:List (I_Term)) (b3_0:Int) (b3_1:Int) (b3_2:List (I_Term)):Option (Bool):=if x5<(b2_2.length:Int) then (if 0≤x5 then (if x5<(b2_2.length:Int) then (if 0≤x5 then (if x5<(b3_2.length:Int) then ((fQ25.f k ((rd_I_Term b2_2 x5).f0) ((rd_I_Term b2_2 x5).f1) ((rd_I_Term b2_2 x5).f2) ((rd_I_Term b3_2 x5).f0) ((rd_I_Term b3_2 x5).f1) ((rd_I_Term b3_2 x5).f2)).bind fun t1=>(if (!t1)=true then (if 0≤x5 then (if x5<(b2_2.length:Int) then (if 0≤x5 then (if x5<(b3_2.length:Int) then ((fQ28.f k ((rd_I_Term b2_2 x5).f0) ((rd_I_Term b2_2 x5).f1) ((rd_I_Term b2_2 x5).f2) ((rd_I_Term b3_2 x5).f0) ((rd_I_Term b3_2 x5).f1) ((rd_I_Term b3_2 x5).f2)).bind fun t2=>(some t2)) else none) else none) else none) else none) else (fQ28.l0 k (wr .i64 (x5+1)) b2_0 b2_1 b2_2 b3_0 b3_1 b3_2))) else none) else none) else none) else none) else (some false)
theorem fQ28.l0.clean (k:Nat) (x5:Int) (b2_0:Int) (b2_1:Int) (b2_2:List (I_Term)) (b3_0:Int) (b3_1:Int) (b3_2:List (I_Term)):fQ28.l0.raw k x5 b2_0 b2_1 b2_2 b3_0 b3_1 b3_2=fQ28.l0 (k+1) x5 b2_0 b2_1 b2_2 b3_0 b3_1 b3_2:=by
 rw [fQ28.l0.raw,fQ28.l0]
 simp only [wr_i64]
 exact ite_congr rfl (fun h0=>ite_congr rfl (fun h1=>Eq.trans (if_pos h0) (Eq.trans (if_pos h1) (ite_congr rfl (fun h2=>bind_cg fun t1=>(Eq.trans (ite_nb _ _ _) (ite_congr rfl (fun h3=>rfl) (fun h3=>Eq.trans (if_pos h1) (Eq.trans (if_pos h0) (Eq.trans (if_pos h1) (if_pos h2))))))) (fun h2=>rfl)))) (fun h1=>rfl)) (fun h0=>rfl)
theorem fQ28.l0.chk (k:Nat) (x:TupT ST [.int .i64,.int .i64,.int .i64,.lst (.st 3),.int .i64,.int .i64,.lst (.st 3)]):runU TT (calF [] (fQ28.ents k)) (jmps fQ28.us k) (finK Try.f238 (retK TT (.one) [.bool])) Try.f238 (some 8) (canonC fQ28.l0.c x)=fQ28.l0 (k+1) x.1 x.2.1 x.2.2.1 x.2.2.2.1 x.2.2.2.2.1 x.2.2.2.2.2.1 x.2.2.2.2.2.2:=Eq.trans (show _=fQ28.l0.raw k x.1 x.2.1 x.2.2.1 x.2.2.2.1 x.2.2.2.2.1 x.2.2.2.2.2.1 x.2.2.2.2.2.2 by kernel_rfl) (fQ28.l0.clean k x.1 x.2.1 x.2.2.1 x.2.2.2.1 x.2.2.2.2.1 x.2.2.2.2.2.1 x.2.2.2.2.2.2)
noncomputable def fQ28.raw (k:Nat) (a0_0:Int) (a0_1:Int) (l0_2:List (I_Term)) (a1_0:Int) (a1_1:Int) (l1_2:List (I_Term)):Option (Bool):=if ¬a0_0=a1_0 then (some (decide (a0_0<a1_0))) else (if ¬a0_1=a1_1 then (some (decide (a0_1<a1_1))) else (if ¬(l0_2.length:Int)=(l1_2.length:Int) then (some (decide ((l0_2.length:Int)<(l1_2.length:Int)))) else (fQ28.l0 k 0 a0_0 a0_1 l0_2 a1_0 a1_1 l1_2)))
theorem fQ28.clean (k:Nat) (a0_0:Int) (a0_1:Int) (l0_2:List (I_Term)) (a1_0:Int) (a1_1:Int) (l1_2:List (I_Term)):fQ28.raw k a0_0 a0_1 l0_2 a1_0 a1_1 l1_2=fQ28.f (k+1) a0_0 a0_1 l0_2 a1_0 a1_1 l1_2:=by
 rw [fQ28.raw,fQ28.f]
 exact Eq.trans (ite_ng _ _) (ite_congr rfl (fun h0=>Eq.trans (ite_ng _ _) (ite_congr rfl (fun h1=>ite_ng _ _) (fun h1=>rfl))) (fun h0=>rfl))
theorem fQ28.chk (k:Nat) (x:TupT ST [.int .i64,.int .i64,.lst (.st 3),.int .i64,.int .i64,.lst (.st 3)]):runU TT (calF [] (fQ28.ents k)) (jmps fQ28.us k) (finK Try.f238 (retK TT (.one) [.bool])) Try.f238 none (canon (args0 0 (argL [.agg 3,.agg 3] [.int .i64,.int .i64,.lst (.st 3),.int .i64,.int .i64,.lst (.st 3)] x)) [])=fQ28.f (k+1) x.1 x.2.1 x.2.2.1 x.2.2.2.1 x.2.2.2.2.1 x.2.2.2.2.2:=Eq.trans (show _=fQ28.raw k x.1 x.2.1 x.2.2.1 x.2.2.2.1 x.2.2.2.2.1 x.2.2.2.2.2 by kernel_rfl) (fQ28.clean k x.1 x.2.1 x.2.2.1 x.2.2.2.1 x.2.2.2.2.1 x.2.2.2.2.2)
theorem fQ28.grp:∀k:Nat,EachU (EntOk Try.prog TT) [fQ28.ent k]∧EachU (Ent2Ok Try.prog TT) []:=by
 intro k
 induction k using Nat.strongRecOn with
 | ind k ih=>
  exact And.intro (And.intro (fun_in tbl mixed 238 Try.f238 Try.func238 rfl (by kernel_rfl) [.agg 3,.agg 3] [.int .i64,.int .i64,.lst (.st 3),.int .i64,.int .i64,.lst (.st 3)] (.one) [.bool] (by kernel_rfl) [] fQ28.ents fQ28.us (And.intro (fun _=>rfl) True.intro) (And.intro fQ28.l0.chk True.intro) (fun k (x:TupT ST [.int .i64,.int .i64,.lst (.st 3),.int .i64,.int .i64,.lst (.st 3)])=>fQ28.f k x.1 x.2.1 x.2.2.1 x.2.2.2.1 x.2.2.2.2.1 x.2.2.2.2.2) (fun _=>rfl) fQ28.chk k (fun j h=>EntsOk.mk (And.intro (fQ25.ok j) (And.intro (ih j h).1.1 True.intro)) True.intro True.intro)) True.intro) True.intro
theorem fQ28.ok (k:Nat):EntOk Try.prog TT (fQ28.ent k):=(fQ28.grp k).1.1
mutual
noncomputable def fQ24.l0:Nat→List (I_Sym)→Int→Int→Int→List (I_Term)→Option (Bool)
 | 0,_,_,_,_,_=>none
 | k+1,x0,x5,b3_0,b3_1,b3_2=>if x5<(b3_2.length:Int) then (if 0≤b3_0 then (if b3_0<(x0.length:Int) then (if ((rd_I_Sym x0 b3_0).f2)=true then (if 0≤x5 then (if ((rd_I_Term b3_2 x5).f0)=b3_0 then (some false) else (if x5>0 then (if 0≤(wrap64 (x5 - 1)) then (if (wrap64 (x5 - 1))<(b3_2.length:Int) then ((fQ28.f k ((rd_I_Term b3_2 x5).f0) ((rd_I_Term b3_2 x5).f1) ((rd_I_Term b3_2 x5).f2) ((rd_I_Term b3_2 (wrap64 (x5 - 1))).f0) ((rd_I_Term b3_2 (wrap64 (x5 - 1))).f1) ((rd_I_Term b3_2 (wrap64 (x5 - 1))).f2)).bind fun t3=>(if t3=true then (some false) else ((fQ24.f k x0 ((rd_I_Term b3_2 x5).f0) ((rd_I_Term b3_2 x5).f1) ((rd_I_Term b3_2 x5).f2)).bind fun t4=>(if t4=true then (fQ24.l0 k x0 (wrap64 (x5+1)) b3_0 b3_1 b3_2) else (some false))))) else none) else none) else ((fQ24.f k x0 ((rd_I_Term b3_2 x5).f0) ((rd_I_Term b3_2 x5).f1) ((rd_I_Term b3_2 x5).f2)).bind fun t5=>(if t5=true then (fQ24.l0 k x0 (wrap64 (x5+1)) b3_0 b3_1 b3_2) else (some false))))) else none) else (if 0≤x5 then ((fQ24.f k x0 ((rd_I_Term b3_2 x5).f0) ((rd_I_Term b3_2 x5).f1) ((rd_I_Term b3_2 x5).f2)).bind fun t6=>(if t6=true then (fQ24.l0 k x0 (wrap64 (x5+1)) b3_0 b3_1 b3_2) else (some false))) else none)) else none) else none) else (some true)
noncomputable def fQ24.f:Nat→List (I_Sym)→Int→Int→List (I_Term)→Option (Bool)
 | 0,_,_,_,_=>none
 | k+1,l0,a1_0,a1_1,l1_2=>if a1_0=(-1) then ((spec_l1In.f a1_1 0 99).bind fun t1=>(if t1=true then (some (decide ((l1_2.length:Int)=0))) else (some false))) else ((spec_l1In.f a1_0 0 (wrap64 ((l0.length:Int) - 1))).bind fun t2=>(if t2=true then (if a1_1=0 then (if 0≤a1_0 then (if a1_0<(l0.length:Int) then (if ((rd_I_Sym l0 a1_0).f2)=true then (if (l1_2.length:Int)<2 then (some false) else (fQ24.l0 k l0 0 a1_0 a1_1 l1_2)) else (if (l1_2.length:Int)=((rd_I_Sym l0 a1_0).f1) then (fQ24.l0 k l0 0 a1_0 a1_1 l1_2) else (some false))) else none) else none) else (some false)) else (some false)))
end
noncomputable def fQ24.ent (k:Nat):Ent TT:=⟨160,[.one,.agg 3],[.lst (.st 0),.int .i64,.int .i64,.lst (.st 3)],.one,[.bool],fun x=>fQ24.f k x.1 x.2.1 x.2.2.1 x.2.2.2⟩
noncomputable def fQ24.l0.c:Cut:=⟨[0],[(3,2)],[(0,.one),(3,.ptr 3 0),(5,.one)],[(3,[.one,.one,.one])],[],[.lst (.st 0),.int .i64,.int .i64,.int .i64,.lst (.st 3)]⟩
@[reducible] noncomputable def fQ24.us:List (CutU TT (TupT ST [.bool])):=[⟨6,fQ24.l0.c,fun k x=>fQ24.l0 k x.1 x.2.1 x.2.2.1 x.2.2.2.1 x.2.2.2.2⟩]
noncomputable def fQ24.ents (k:Nat):Ents TT:=⟨[spec_l1In.ent,fQ28.ent k,fQ24.ent k],[],[]⟩
noncomputable def fQ24.l0.raw (k:Nat) (x0:List (I_Sym)) (x5:Int) (b3_0:Int) (b3_1:Int) (b3_2:List (I_Term)):Option (Bool):=if x5<(b3_2.length:Int) then (if 0≤b3_0 then (if b3_0<(x0.length:Int) then (if ((rd_I_Sym x0 b3_0).f2)=true then (if 0≤x5 then (if x5<(b3_2.length:Int) then (if ((rd_I_Term b3_2 x5).f0)=b3_0 then (some false) else (if x5>0 then (if 0≤x5 then (if x5<(b3_2.length:Int) then (if 0≤(wr .i64 (x5 - 1)) then (if (wr .i64 (x5 - 1))<(b3_2.length:Int) then ((fQ28.f k ((rd_I_Term b3_2 x5).f0) ((rd_I_Term b3_2 x5).f1) ((rd_I_Term b3_2 x5).f2) ((rd_I_Term b3_2 (wr .i64 (x5 - 1))).f0) ((rd_I_Term b3_2 (wr .i64 (x5 - 1))).f1) ((rd_I_Term b3_2 (wr .i64 (x5 - 1))).f2)).bind fun t3=>(if t3=true then (some false) else (if 0≤x5 then (if x5<(b3_2.length:Int) then ((fQ24.f k x0 ((rd_I_Term b3_2 x5).f0) ((rd_I_Term b3_2 x5).f1) ((rd_I_Term b3_2 x5).f2)).bind fun t4=>(if (!t4)=true then (some false) else (fQ24.l0 k x0 (wr .i64 (x5+1)) b3_0 b3_1 b3_2))) else none) else none))) else none) else none) else none) else none) else (if 0≤x5 then (if x5<(b3_2.length:Int) then ((fQ24.f k x0 ((rd_I_Term b3_2 x5).f0) ((rd_I_Term b3_2 x5).f1) ((rd_I_Term b3_2 x5).f2)).bind fun t5=>(if (!t5)=true then (some false) else (fQ24.l0 k x0 (wr .i64 (x5+1)) b3_0 b3_1 b3_2))) else none) else none))) else none) else none) else (if 0≤x5 then (if x5<(b3_2.length:Int) then ((fQ24.f k x0 ((rd_I_Term b3_2 x5).f0) ((rd_I_Term b3_2 x5).f1) ((rd_I_Term b3_2 x5).f2)).bind fun t6=>(if (!t6)=true then (some false) else (fQ24.l0 k x0 (wr .i64 (x5+1)) b3_0 b3_1 b3_2))) else none) else none)) else none) else none) else (some true)
theorem fQ24.l0.clean (k:Nat) (x0:List (I_Sym)) (x5:Int) (b3_0:Int) (b3_1:Int) (b3_2:List (I_Term)):fQ24.l0.raw k x0 x5 b3_0 b3_1 b3_2=fQ24.l0 (k+1) x0 x5 b3_0 b3_1 b3_2:=by
 rw [fQ24.l0.raw,fQ24.l0]
 simp only [wr_i64]
 exact ite_congr rfl (fun h0=>ite_congr rfl (fun h1=>ite_congr rfl (fun h2=>ite_congr rfl (fun h3=>ite_congr rfl (fun h4=>Eq.trans (if_pos h0) (ite_congr rfl (fun h5=>rfl) (fun h5=>ite_congr rfl (fun h6=>Eq.trans (if_pos h4) (Eq.trans (if_pos h0) (ite_congr rfl (fun h7=>ite_congr rfl (fun h8=>bind_cg fun t3=>(ite_congr rfl (fun h9=>rfl) (fun h9=>Eq.trans (if_pos h4) (Eq.trans (if_pos h0) (bind_cg fun t4=>(ite_nb _ _ _)))))) (fun h8=>rfl)) (fun h7=>rfl)))) (fun h6=>Eq.trans (if_pos h4) (Eq.trans (if_pos h0) (bind_cg fun t5=>(ite_nb _ _ _))))))) (fun h4=>rfl)) (fun h3=>ite_congr rfl (fun h4=>Eq.trans (if_pos h0) (bind_cg fun t6=>(ite_nb _ _ _))) (fun h4=>rfl))) (fun h2=>rfl)) (fun h1=>rfl)) (fun h0=>rfl)
theorem fQ24.l0.chk (k:Nat) (x:TupT ST [.lst (.st 0),.int .i64,.int .i64,.int .i64,.lst (.st 3)]):runU TT (calF [] (fQ24.ents k)) (jmps fQ24.us k) (finK Try.f160 (retK TT (.one) [.bool])) Try.f160 (some 6) (canonC fQ24.l0.c x)=fQ24.l0 (k+1) x.1 x.2.1 x.2.2.1 x.2.2.2.1 x.2.2.2.2:=Eq.trans (show _=fQ24.l0.raw k x.1 x.2.1 x.2.2.1 x.2.2.2.1 x.2.2.2.2 by kernel_rfl) (fQ24.l0.clean k x.1 x.2.1 x.2.2.1 x.2.2.2.1 x.2.2.2.2)
noncomputable def fQ24.raw (k:Nat) (l0:List (I_Sym)) (a1_0:Int) (a1_1:Int) (l1_2:List (I_Term)):Option (Bool):=if a1_0=(-1) then ((spec_l1In.f a1_1 0 99).bind fun t1=>(if t1=true then (some (decide ((l1_2.length:Int)=0))) else (some false))) else ((spec_l1In.f a1_0 0 (wr .i64 ((l0.length:Int) - 1))).bind fun t2=>(if (!t2)=true then (some false) else (if ¬a1_1=0 then (some false) else (if 0≤a1_0 then (if a1_0<(l0.length:Int) then (if (!((rd_I_Sym l0 a1_0).f2))=true then (if 0≤a1_0 then (if a1_0<(l0.length:Int) then (if ¬(l1_2.length:Int)=((rd_I_Sym l0 a1_0).f1) then (some false) else (if 0≤a1_0 then (if a1_0<(l0.length:Int) then (if ((rd_I_Sym l0 a1_0).f2)=true then (if (l1_2.length:Int)<2 then (some false) else (fQ24.l0 k l0 0 a1_0 a1_1 l1_2)) else (fQ24.l0 k l0 0 a1_0 a1_1 l1_2)) else none) else none)) else none) else none) else (if 0≤a1_0 then (if a1_0<(l0.length:Int) then (if ((rd_I_Sym l0 a1_0).f2)=true then (if (l1_2.length:Int)<2 then (some false) else (fQ24.l0 k l0 0 a1_0 a1_1 l1_2)) else (fQ24.l0 k l0 0 a1_0 a1_1 l1_2)) else none) else none)) else none) else none))))
theorem fQ24.clean (k:Nat) (l0:List (I_Sym)) (a1_0:Int) (a1_1:Int) (l1_2:List (I_Term)):fQ24.raw k l0 a1_0 a1_1 l1_2=fQ24.f (k+1) l0 a1_0 a1_1 l1_2:=by
 rw [fQ24.raw,fQ24.f]
 simp only [wr_i64]
 exact ite_congr rfl (fun h0=>rfl) (fun h0=>bind_cg fun t2=>(Eq.trans (ite_nb _ _ _) (ite_congr rfl (fun h1=>Eq.trans (ite_ng _ _) (ite_congr rfl (fun h2=>ite_congr rfl (fun h3=>ite_congr rfl (fun h4=>Eq.trans (ite_nb _ _ _) (ite_congr rfl (fun h5=>Eq.trans (if_pos h3) (Eq.trans (if_pos h4) (if_pos h5))) (fun h5=>Eq.trans (if_pos h3) (Eq.trans (if_pos h4) (Eq.trans (ite_ng _ _) (ite_congr rfl (fun h6=>Eq.trans (if_pos h3) (Eq.trans (if_pos h4) (if_neg h5))) (fun h6=>rfl))))))) (fun h4=>rfl)) (fun h3=>rfl)) (fun h2=>rfl))) (fun h1=>rfl))))
theorem fQ24.chk (k:Nat) (x:TupT ST [.lst (.st 0),.int .i64,.int .i64,.lst (.st 3)]):runU TT (calF [] (fQ24.ents k)) (jmps fQ24.us k) (finK Try.f160 (retK TT (.one) [.bool])) Try.f160 none (canon (args0 0 (argL [.one,.agg 3] [.lst (.st 0),.int .i64,.int .i64,.lst (.st 3)] x)) [])=fQ24.f (k+1) x.1 x.2.1 x.2.2.1 x.2.2.2:=Eq.trans (show _=fQ24.raw k x.1 x.2.1 x.2.2.1 x.2.2.2 by kernel_rfl) (fQ24.clean k x.1 x.2.1 x.2.2.1 x.2.2.2)
theorem fQ24.grp:∀k:Nat,EachU (EntOk Try.prog TT) [fQ24.ent k]∧EachU (Ent2Ok Try.prog TT) []:=by
 intro k
 induction k using Nat.strongRecOn with
 | ind k ih=>
  exact And.intro (And.intro (fun_in tbl mixed 160 Try.f160 Try.func160 rfl (by kernel_rfl) [.one,.agg 3] [.lst (.st 0),.int .i64,.int .i64,.lst (.st 3)] (.one) [.bool] (by kernel_rfl) [] fQ24.ents fQ24.us (And.intro (fun _=>rfl) True.intro) (And.intro fQ24.l0.chk True.intro) (fun k (x:TupT ST [.lst (.st 0),.int .i64,.int .i64,.lst (.st 3)])=>fQ24.f k x.1 x.2.1 x.2.2.1 x.2.2.2) (fun _=>rfl) fQ24.chk k (fun j h=>EntsOk.mk (And.intro spec_l1In.ok (And.intro (fQ28.ok j) (And.intro (ih j h).1.1 True.intro))) True.intro True.intro)) True.intro) True.intro
theorem fQ24.ok (k:Nat):EntOk Try.prog TT (fQ24.ent k):=(fQ24.grp k).1.1
noncomputable def fQ58.f (k:Nat) (l0:List (I_Sym)) (a1_0:Int) (a1_1:Int) (l1_2:List (I_Term)):Option (Bool):=(fQ49.f k l0).bind fun t1=>(if t1=true then ((fQ44.f k a1_0 a1_1 l1_2).bind fun t2=>(if t2≤60 then ((fQ24.f k l0 a1_0 a1_1 l1_2).bind fun t3=>(some t3)) else (some false))) else (some false))
@[reducible] noncomputable def fQ58.us:List (CutU TT (TupT ST [.bool])):=[]
noncomputable def fQ58.ent (k:Nat):Ent TT:=⟨63,[.one,.agg 3],[.lst (.st 0),.int .i64,.int .i64,.lst (.st 3)],.one,[.bool],fun x=>fQ58.f k x.1 x.2.1 x.2.2.1 x.2.2.2⟩
noncomputable def fQ58.ents (k:Nat):Ents TT:=⟨[fQ49.ent k,fQ44.ent k,fQ24.ent k],[],[]⟩
theorem fQ58.chk (k:Nat) (x:TupT ST [.lst (.st 0),.int .i64,.int .i64,.lst (.st 3)]):runU TT (calF [] (fQ58.ents k)) (jmps fQ58.us k) (finK Try.f63 (retK TT (.one) [.bool])) Try.f63 none (canon (args0 0 (argL [.one,.agg 3] [.lst (.st 0),.int .i64,.int .i64,.lst (.st 3)] x)) [])=fQ58.f k x.1 x.2.1 x.2.2.1 x.2.2.2:=by kernel_rfl
theorem fQ58.ok (k:Nat):EntOk Try.prog TT (fQ58.ent k):=
 fun_of tbl mixed 63 Try.f63 Try.func63 rfl (by kernel_rfl) [.one,.agg 3] [.lst (.st 0),.int .i64,.int .i64,.lst (.st 3)] (.one) [.bool] (by kernel_rfl) [] fQ58.ents fQ58.us True.intro True.intro (fun k (x:TupT ST [.lst (.st 0),.int .i64,.int .i64,.lst (.st 3)])=>fQ58.f k x.1 x.2.1 x.2.2.1 x.2.2.2) fQ58.chk (fun k=>EntsOk.mk (And.intro (fQ49.ok k) (And.intro (fQ44.ok k) (And.intro (fQ24.ok k) True.intro))) True.intro True.intro) k
noncomputable def fQ64.f (l0:List (I_Sym)) (a1:Int):Option (Bool):=(fQ56.f l0 a1).bind fun t1=>(if t1=true then (if 0≤a1 then (if a1<(l0.length:Int) then (some ((rd_I_Sym l0 a1).f2)) else none) else none) else (some false))
@[reducible] noncomputable def fQ64.us:List (CutU TT (TupT ST [.bool])):=[]
noncomputable def fQ64.ent:Ent TT:=⟨61,[.one,.one],[.lst (.st 0),.int .i64],.one,[.bool],fun x=>fQ64.f x.1 x.2⟩
noncomputable def fQ64.ents (k:Nat):Ents TT:=⟨[fQ56.ent],[],[]⟩
theorem fQ64.chk (k:Nat) (x:TupT ST [.lst (.st 0),.int .i64]):runU TT (calF [] (fQ64.ents k)) (jmps fQ64.us k) (finK Try.f61 (retK TT (.one) [.bool])) Try.f61 none (canon (args0 0 (argL [.one,.one] [.lst (.st 0),.int .i64] x)) [])=fQ64.f x.1 x.2:=by kernel_rfl
theorem fQ64.ok:EntOk Try.prog TT (fQ64.ent):=
 fun_of tbl mixed 61 Try.f61 Try.func61 rfl (by kernel_rfl) [.one,.one] [.lst (.st 0),.int .i64] (.one) [.bool] (by kernel_rfl) [] fQ64.ents fQ64.us True.intro True.intro (fun k (x:TupT ST [.lst (.st 0),.int .i64])=>fQ64.f x.1 x.2) fQ64.chk (fun k=>EntsOk.mk (And.intro fQ56.ok True.intro) True.intro True.intro) 0
mutual
noncomputable def fQ22.l0:Nat→List (I_Sym)→List (Int)→List (Int)→Int→List (I_Term)→Int→Int→Int→List (List (Int))→Option (Int)
 | 0,_,_,_,_,_,_,_,_,_=>none
 | k+1,x0,x3,x9,x10,x58,x59,x60,b5_0,b5_1=>if x60<x59 then (if 0≤x60 then (if x60<(x58.length:Int) then ((fQ22.f k x0 b5_0 b5_1 ((rd_I_Term x58 x60).f0) ((rd_I_Term x58 x60).f1) ((rd_I_Term x58 x60).f2) x3).bind fun t4=>(if 0≤(wrap64 (x10+(wrap64 (b5_0*t4)))) then (if (wrap64 (x10+(wrap64 (b5_0*t4))))<(x9.length:Int) then (fQ22.l0 k x0 x3 x9 (rd x9 (wrap64 (x10+(wrap64 (b5_0*t4))))) x58 x59 (wrap64 (x60+1)) b5_0 b5_1) else none) else none)) else none) else none) else (some x10)
noncomputable def fQ22.l1:Nat→List (I_Sym)→List (Int)→List (Int)→Int→Int→List (I_Term)→Int→Int→Int→List (List (Int))→Option (Int)
 | 0,_,_,_,_,_,_,_,_,_,_=>none
 | k+1,x0,x3,x9,x13,x14,x80,x81,x82,b5_0,b5_1=>if x82<x81 then (if 0≤x82 then (if x82<(x80.length:Int) then ((fQ22.f k x0 b5_0 b5_1 ((rd_I_Term x80 x82).f0) ((rd_I_Term x80 x82).f1) ((rd_I_Term x80 x82).f2) x3).bind fun t5=>(fQ22.l1 k x0 x3 x9 (wrap64 (x13+(wrap64 (x14*t5)))) (wrap64 (x14*b5_0)) x80 x81 (wrap64 (x82+1)) b5_0 b5_1)) else none) else none) else (if 0≤x13 then (if x13<(x9.length:Int) then (some (rd x9 x13)) else none) else none)
noncomputable def fQ22.f:Nat→List (I_Sym)→Int→List (List (Int))→Int→Int→List (I_Term)→List (Int)→Option (Int)
 | 0,_,_,_,_,_,_,_=>none
 | k+1,l0,a1_0,l1_1,a2_0,a2_1,l2_2,l3=>(fQ57.f a2_0 a2_1 l2_2).bind fun t1=>(if t1=true then (if a2_1≥(l3.length:Int) then (some 0) else (if 0≤a2_1 then (if a2_1<(l3.length:Int) then (if a1_0=0 then none else (some (Int.tmod (wrap64 ((Int.tmod (rd l3 a2_1) a1_0)+a1_0)) a1_0))) else none) else none)) else (if 0≤a2_0 then (if a2_0<(l1_1.length:Int) then ((fQ64.f l0 a2_0).bind fun t2=>(if t2=true then (if 0<(l2_2.length:Int) then ((fQ22.f k l0 a1_0 l1_1 ((rd_I_Term l2_2 0).f0) ((rd_I_Term l2_2 0).f1) ((rd_I_Term l2_2 0).f2) l3).bind fun t3=>(if 1≤(l2_2.length:Int) then (fQ22.l0 k l0 l3 (rd_Ls_i64 l1_1 a2_0) t3 (l2_2.drop (1:Int).toNat) ((l2_2.drop (1:Int).toNat).length:Int) 0 a1_0 l1_1) else none)) else none) else (fQ22.l1 k l0 l3 (rd_Ls_i64 l1_1 a2_0) 0 1 l2_2 (l2_2.length:Int) 0 a1_0 l1_1))) else none) else none))
end
noncomputable def fQ22.ent (k:Nat):Ent TT:=⟨161,[.one,.agg 2,.agg 3,.one],[.lst (.st 0),.int .i64,.lst (.lst (.int .i64)),.int .i64,.int .i64,.lst (.st 3),.lst (.int .i64)],.one,[.int .i64],fun x=>fQ22.f k x.1 x.2.1 x.2.2.1 x.2.2.2.1 x.2.2.2.2.1 x.2.2.2.2.2.1 x.2.2.2.2.2.2⟩
noncomputable def fQ22.l0.c:Cut:=⟨[0,3,9,58],[(5,1)],[(0,.one),(3,.one),(5,.ptr 5 0),(9,.one),(10,.one),(58,.one),(59,.one),(60,.one)],[(5,[.one,.one])],[],[.lst (.st 0),.lst (.int .i64),.lst (.int .i64),.int .i64,.lst (.st 3),.int .i64,.int .i64,.int .i64,.lst (.lst (.int .i64))]⟩
noncomputable def fQ22.l1.c:Cut:=⟨[0,3,9,80],[(5,1)],[(0,.one),(3,.one),(5,.ptr 5 0),(9,.one),(13,.one),(14,.one),(80,.one),(81,.one),(82,.one)],[(5,[.one,.one])],[],[.lst (.st 0),.lst (.int .i64),.lst (.int .i64),.int .i64,.int .i64,.lst (.st 3),.int .i64,.int .i64,.int .i64,.lst (.lst (.int .i64))]⟩
@[reducible] noncomputable def fQ22.us:List (CutU TT (TupT ST [.int .i64])):=[⟨9,fQ22.l0.c,fun k x=>fQ22.l0 k x.1 x.2.1 x.2.2.1 x.2.2.2.1 x.2.2.2.2.1 x.2.2.2.2.2.1 x.2.2.2.2.2.2.1 x.2.2.2.2.2.2.2.1 x.2.2.2.2.2.2.2.2⟩,⟨16,fQ22.l1.c,fun k x=>fQ22.l1 k x.1 x.2.1 x.2.2.1 x.2.2.2.1 x.2.2.2.2.1 x.2.2.2.2.2.1 x.2.2.2.2.2.2.1 x.2.2.2.2.2.2.2.1 x.2.2.2.2.2.2.2.2.1 x.2.2.2.2.2.2.2.2.2⟩]
noncomputable def fQ22.ents (k:Nat):Ents TT:=⟨[fQ57.ent,fQ64.ent,fQ22.ent k],[],[]⟩
noncomputable def fQ22.l0.raw (k:Nat) (x0:List (I_Sym)) (x3:List (Int)) (x9:List (Int)) (x10:Int) (x58:List (I_Term)) (x59:Int) (x60:Int) (b5_0:Int) (b5_1:List (List (Int))):Option (Int):=if x60<x59 then (if 0≤x60 then (if x60<(x58.length:Int) then ((fQ22.f k x0 b5_0 b5_1 ((rd_I_Term x58 x60).f0) ((rd_I_Term x58 x60).f1) ((rd_I_Term x58 x60).f2) x3).bind fun t4=>(if 0≤(wr .i64 (x10+(wr .i64 (b5_0*t4)))) then (if (wr .i64 (x10+(wr .i64 (b5_0*t4))))<(x9.length:Int) then (fQ22.l0 k x0 x3 x9 (rd x9 (wr .i64 (x10+(wr .i64 (b5_0*t4))))) x58 x59 (wr .i64 (x60+1)) b5_0 b5_1) else none) else none)) else none) else none) else (some x10)
theorem fQ22.l0.clean (k:Nat) (x0:List (I_Sym)) (x3:List (Int)) (x9:List (Int)) (x10:Int) (x58:List (I_Term)) (x59:Int) (x60:Int) (b5_0:Int) (b5_1:List (List (Int))):fQ22.l0.raw k x0 x3 x9 x10 x58 x59 x60 b5_0 b5_1=fQ22.l0 (k+1) x0 x3 x9 x10 x58 x59 x60 b5_0 b5_1:=by
 rw [fQ22.l0.raw,fQ22.l0]
 simp only [wr_i64]
theorem fQ22.l0.chk (k:Nat) (x:TupT ST [.lst (.st 0),.lst (.int .i64),.lst (.int .i64),.int .i64,.lst (.st 3),.int .i64,.int .i64,.int .i64,.lst (.lst (.int .i64))]):runU TT (calF [] (fQ22.ents k)) (jmps fQ22.us k) (finK Try.f161 (retK TT (.one) [.int .i64])) Try.f161 (some 9) (canonC fQ22.l0.c x)=fQ22.l0 (k+1) x.1 x.2.1 x.2.2.1 x.2.2.2.1 x.2.2.2.2.1 x.2.2.2.2.2.1 x.2.2.2.2.2.2.1 x.2.2.2.2.2.2.2.1 x.2.2.2.2.2.2.2.2:=Eq.trans (show _=fQ22.l0.raw k x.1 x.2.1 x.2.2.1 x.2.2.2.1 x.2.2.2.2.1 x.2.2.2.2.2.1 x.2.2.2.2.2.2.1 x.2.2.2.2.2.2.2.1 x.2.2.2.2.2.2.2.2 by kernel_rfl) (fQ22.l0.clean k x.1 x.2.1 x.2.2.1 x.2.2.2.1 x.2.2.2.2.1 x.2.2.2.2.2.1 x.2.2.2.2.2.2.1 x.2.2.2.2.2.2.2.1 x.2.2.2.2.2.2.2.2)
noncomputable def fQ22.l1.raw (k:Nat) (x0:List (I_Sym)) (x3:List (Int)) (x9:List (Int)) (x13:Int) (x14:Int) (x80:List (I_Term)) (x81:Int) (x82:Int) (b5_0:Int) (b5_1:List (List (Int))):Option (Int):=if x82<x81 then (if 0≤x82 then (if x82<(x80.length:Int) then ((fQ22.f k x0 b5_0 b5_1 ((rd_I_Term x80 x82).f0) ((rd_I_Term x80 x82).f1) ((rd_I_Term x80 x82).f2) x3).bind fun t5=>(fQ22.l1 k x0 x3 x9 (wr .i64 (x13+(wr .i64 (x14*t5)))) (wr .i64 (x14*b5_0)) x80 x81 (wr .i64 (x82+1)) b5_0 b5_1)) else none) else none) else (if 0≤x13 then (if x13<(x9.length:Int) then (some (rd x9 x13)) else none) else none)
theorem fQ22.l1.clean (k:Nat) (x0:List (I_Sym)) (x3:List (Int)) (x9:List (Int)) (x13:Int) (x14:Int) (x80:List (I_Term)) (x81:Int) (x82:Int) (b5_0:Int) (b5_1:List (List (Int))):fQ22.l1.raw k x0 x3 x9 x13 x14 x80 x81 x82 b5_0 b5_1=fQ22.l1 (k+1) x0 x3 x9 x13 x14 x80 x81 x82 b5_0 b5_1:=by
 rw [fQ22.l1.raw,fQ22.l1]
 simp only [wr_i64]
theorem fQ22.l1.chk (k:Nat) (x:TupT ST [.lst (.st 0),.lst (.int .i64),.lst (.int .i64),.int .i64,.int .i64,.lst (.st 3),.int .i64,.int .i64,.int .i64,.lst (.lst (.int .i64))]):runU TT (calF [] (fQ22.ents k)) (jmps fQ22.us k) (finK Try.f161 (retK TT (.one) [.int .i64])) Try.f161 (some 16) (canonC fQ22.l1.c x)=fQ22.l1 (k+1) x.1 x.2.1 x.2.2.1 x.2.2.2.1 x.2.2.2.2.1 x.2.2.2.2.2.1 x.2.2.2.2.2.2.1 x.2.2.2.2.2.2.2.1 x.2.2.2.2.2.2.2.2.1 x.2.2.2.2.2.2.2.2.2:=Eq.trans (show _=fQ22.l1.raw k x.1 x.2.1 x.2.2.1 x.2.2.2.1 x.2.2.2.2.1 x.2.2.2.2.2.1 x.2.2.2.2.2.2.1 x.2.2.2.2.2.2.2.1 x.2.2.2.2.2.2.2.2.1 x.2.2.2.2.2.2.2.2.2 by kernel_rfl) (fQ22.l1.clean k x.1 x.2.1 x.2.2.1 x.2.2.2.1 x.2.2.2.2.1 x.2.2.2.2.2.1 x.2.2.2.2.2.2.1 x.2.2.2.2.2.2.2.1 x.2.2.2.2.2.2.2.2.1 x.2.2.2.2.2.2.2.2.2)
noncomputable def fQ22.raw (k:Nat) (l0:List (I_Sym)) (a1_0:Int) (l1_1:List (List (Int))) (a2_0:Int) (a2_1:Int) (l2_2:List (I_Term)) (l3:List (Int)):Option (Int):=(fQ57.f a2_0 a2_1 l2_2).bind fun t1=>(if t1=true then (if a2_1≥(l3.length:Int) then (some 0) else (if 0≤a2_1 then (if a2_1<(l3.length:Int) then (if a1_0=0 then none else (if a1_0=0 then none else (some (Int.tmod (wr .i64 ((Int.tmod (rd l3 a2_1) a1_0)+a1_0)) a1_0)))) else none) else none)) else (if 0≤a2_0 then (if a2_0<(l1_1.length:Int) then ((fQ64.f l0 a2_0).bind fun t2=>(if t2=true then (if (0:Int)≤0 then (if 0<(l2_2.length:Int) then ((fQ22.f k l0 a1_0 l1_1 ((rd_I_Term l2_2 0).f0) ((rd_I_Term l2_2 0).f1) ((rd_I_Term l2_2 0).f2) l3).bind fun t3=>(if (0:Int)≤1 then (if 1≤(l2_2.length:Int) then (fQ22.l0 k l0 l3 (rd_Ls_i64 l1_1 a2_0) t3 (l2_2.drop (1:Int).toNat) ((l2_2.drop (1:Int).toNat).length:Int) 0 a1_0 l1_1) else none) else none)) else none) else none) else (fQ22.l1 k l0 l3 (rd_Ls_i64 l1_1 a2_0) 0 1 l2_2 (l2_2.length:Int) 0 a1_0 l1_1))) else none) else none))
theorem fQ22.clean (k:Nat) (l0:List (I_Sym)) (a1_0:Int) (l1_1:List (List (Int))) (a2_0:Int) (a2_1:Int) (l2_2:List (I_Term)) (l3:List (Int)):fQ22.raw k l0 a1_0 l1_1 a2_0 a2_1 l2_2 l3=fQ22.f (k+1) l0 a1_0 l1_1 a2_0 a2_1 l2_2 l3:=by
 rw [fQ22.raw,fQ22.f]
 simp only [wr_i64]
 exact bind_cg fun t1=>(ite_congr rfl (fun h0=>ite_congr rfl (fun h1=>rfl) (fun h1=>ite_congr rfl (fun h2=>ite_congr rfl (fun h3=>ite_congr rfl (fun h4=>rfl) (fun h4=>if_neg h4)) (fun h3=>rfl)) (fun h2=>rfl))) (fun h0=>ite_congr rfl (fun h1=>ite_congr rfl (fun h2=>bind_cg fun t2=>(ite_congr rfl (fun h3=>Eq.trans (if_pos (by decide)) (ite_congr rfl (fun h4=>bind_cg fun t3=>(if_pos (by decide))) (fun h4=>rfl))) (fun h3=>rfl))) (fun h2=>rfl)) (fun h1=>rfl)))
theorem fQ22.chk (k:Nat) (x:TupT ST [.lst (.st 0),.int .i64,.lst (.lst (.int .i64)),.int .i64,.int .i64,.lst (.st 3),.lst (.int .i64)]):runU TT (calF [] (fQ22.ents k)) (jmps fQ22.us k) (finK Try.f161 (retK TT (.one) [.int .i64])) Try.f161 none (canon (args0 0 (argL [.one,.agg 2,.agg 3,.one] [.lst (.st 0),.int .i64,.lst (.lst (.int .i64)),.int .i64,.int .i64,.lst (.st 3),.lst (.int .i64)] x)) [])=fQ22.f (k+1) x.1 x.2.1 x.2.2.1 x.2.2.2.1 x.2.2.2.2.1 x.2.2.2.2.2.1 x.2.2.2.2.2.2:=Eq.trans (show _=fQ22.raw k x.1 x.2.1 x.2.2.1 x.2.2.2.1 x.2.2.2.2.1 x.2.2.2.2.2.1 x.2.2.2.2.2.2 by kernel_rfl) (fQ22.clean k x.1 x.2.1 x.2.2.1 x.2.2.2.1 x.2.2.2.2.1 x.2.2.2.2.2.1 x.2.2.2.2.2.2)
theorem fQ22.grp:∀k:Nat,EachU (EntOk Try.prog TT) [fQ22.ent k]∧EachU (Ent2Ok Try.prog TT) []:=by
 intro k
 induction k using Nat.strongRecOn with
 | ind k ih=>
  exact And.intro (And.intro (fun_in tbl mixed 161 Try.f161 Try.func161 rfl (by kernel_rfl) [.one,.agg 2,.agg 3,.one] [.lst (.st 0),.int .i64,.lst (.lst (.int .i64)),.int .i64,.int .i64,.lst (.st 3),.lst (.int .i64)] (.one) [.int .i64] (by kernel_rfl) [] fQ22.ents fQ22.us (And.intro (fun _=>rfl) (And.intro (fun _=>rfl) True.intro)) (And.intro fQ22.l0.chk (And.intro fQ22.l1.chk True.intro)) (fun k (x:TupT ST [.lst (.st 0),.int .i64,.lst (.lst (.int .i64)),.int .i64,.int .i64,.lst (.st 3),.lst (.int .i64)])=>fQ22.f k x.1 x.2.1 x.2.2.1 x.2.2.2.1 x.2.2.2.2.1 x.2.2.2.2.2.1 x.2.2.2.2.2.2) (fun _=>rfl) fQ22.chk k (fun j h=>EntsOk.mk (And.intro fQ57.ok (And.intro fQ64.ok (And.intro (ih j h).1.1 True.intro))) True.intro True.intro)) True.intro) True.intro
theorem fQ22.ok (k:Nat):EntOk Try.prog TT (fQ22.ent k):=(fQ22.grp k).1.1
noncomputable def fQ53.f (k:Nat) (l0:List (I_Sym)) (l1_0:List (List (Int))) (a2_0:Int) (a2_1:Int) (l2_2:List (I_Term)) (l3:List (Int)):Option (Int):=(fQ60.f k l0 l1_0).bind fun t1=>(if t1=true then ((fQ47.f k l0 a2_0 a2_1 l2_2).bind fun t2=>(if t2=true then ((fQ63.f l1_0).bind fun t3=>((fQ22.f k l0 t3.1 t3.2 a2_0 a2_1 l2_2 l3).bind fun t4=>(some t4))) else (some 0))) else (some 0))
@[reducible] noncomputable def fQ53.us:List (CutU TT (TupT ST [.int .i64])):=[]
noncomputable def fQ53.ent (k:Nat):Ent TT:=⟨64,[.one,.agg 1,.agg 3,.one],[.lst (.st 0),.lst (.lst (.int .i64)),.int .i64,.int .i64,.lst (.st 3),.lst (.int .i64)],.one,[.int .i64],fun x=>fQ53.f k x.1 x.2.1 x.2.2.1 x.2.2.2.1 x.2.2.2.2.1 x.2.2.2.2.2⟩
noncomputable def fQ53.ents (k:Nat):Ents TT:=⟨[fQ60.ent k,fQ47.ent k,fQ63.ent,fQ22.ent k],[],[]⟩
noncomputable def fQ53.raw (k:Nat) (l0:List (I_Sym)) (l1_0:List (List (Int))) (a2_0:Int) (a2_1:Int) (l2_2:List (I_Term)) (l3:List (Int)):Option (Int):=(fQ60.f k l0 l1_0).bind fun t1=>(if (!t1)=true then (some 0) else ((fQ47.f k l0 a2_0 a2_1 l2_2).bind fun t2=>(if (!t2)=true then (some 0) else ((fQ63.f l1_0).bind fun t3=>((fQ22.f k l0 t3.1 t3.2 a2_0 a2_1 l2_2 l3).bind fun t4=>(some t4))))))
theorem fQ53.clean (k:Nat) (l0:List (I_Sym)) (l1_0:List (List (Int))) (a2_0:Int) (a2_1:Int) (l2_2:List (I_Term)) (l3:List (Int)):fQ53.raw k l0 l1_0 a2_0 a2_1 l2_2 l3=fQ53.f k l0 l1_0 a2_0 a2_1 l2_2 l3:=by
 rw [fQ53.raw,fQ53.f]
 exact bind_cg fun t1=>(Eq.trans (ite_nb _ _ _) (ite_congr rfl (fun h0=>bind_cg fun t2=>(ite_nb _ _ _)) (fun h0=>rfl)))
theorem fQ53.chk (k:Nat) (x:TupT ST [.lst (.st 0),.lst (.lst (.int .i64)),.int .i64,.int .i64,.lst (.st 3),.lst (.int .i64)]):runU TT (calF [] (fQ53.ents k)) (jmps fQ53.us k) (finK Try.f64 (retK TT (.one) [.int .i64])) Try.f64 none (canon (args0 0 (argL [.one,.agg 1,.agg 3,.one] [.lst (.st 0),.lst (.lst (.int .i64)),.int .i64,.int .i64,.lst (.st 3),.lst (.int .i64)] x)) [])=fQ53.f k x.1 x.2.1 x.2.2.1 x.2.2.2.1 x.2.2.2.2.1 x.2.2.2.2.2:=Eq.trans (show _=fQ53.raw k x.1 x.2.1 x.2.2.1 x.2.2.2.1 x.2.2.2.2.1 x.2.2.2.2.2 by kernel_rfl) (fQ53.clean k x.1 x.2.1 x.2.2.1 x.2.2.2.1 x.2.2.2.2.1 x.2.2.2.2.2)
theorem fQ53.ok (k:Nat):EntOk Try.prog TT (fQ53.ent k):=
 fun_of tbl mixed 64 Try.f64 Try.func64 rfl (by kernel_rfl) [.one,.agg 1,.agg 3,.one] [.lst (.st 0),.lst (.lst (.int .i64)),.int .i64,.int .i64,.lst (.st 3),.lst (.int .i64)] (.one) [.int .i64] (by kernel_rfl) [] fQ53.ents fQ53.us True.intro True.intro (fun k (x:TupT ST [.lst (.st 0),.lst (.lst (.int .i64)),.int .i64,.int .i64,.lst (.st 3),.lst (.int .i64)])=>fQ53.f k x.1 x.2.1 x.2.2.1 x.2.2.2.1 x.2.2.2.2.1 x.2.2.2.2.2) fQ53.chk (fun k=>EntsOk.mk (And.intro (fQ60.ok k) (And.intro (fQ47.ok k) (And.intro fQ63.ok (And.intro (fQ22.ok k) True.intro)))) True.intro True.intro) k
noncomputable def fQ66.f (a0:Int):Option (Int×Int×(List (I_Term))):=some ((-1),a0,[])
@[reducible] noncomputable def fQ66.us:List (CutU TT (TupT ST [.int .i64,.int .i64,.lst (.st 3)])):=[]
noncomputable def fQ66.ent:Ent TT:=⟨232,[.one],[.int .i64],.agg 3,[.int .i64,.int .i64,.lst (.st 3)],fun x=>fQ66.f x⟩
noncomputable def fQ66.ents (k:Nat):Ents TT:=⟨[],[],[]⟩
theorem fQ66.chk (k:Nat) (x:TupT ST [.int .i64]):runU TT (calF [] (fQ66.ents k)) (jmps fQ66.us k) (finK Try.f232 (retK TT (.agg 3) [.int .i64,.int .i64,.lst (.st 3)])) Try.f232 none (canon (args0 0 (argL [.one] [.int .i64] x)) [])=fQ66.f x:=by kernel_rfl
theorem fQ66.ok:EntOk Try.prog TT (fQ66.ent):=
 fun_of tbl mixed 232 Try.f232 Try.func232 rfl (by kernel_rfl) [.one] [.int .i64] (.agg 3) [.int .i64,.int .i64,.lst (.st 3)] (by kernel_rfl) [] fQ66.ents fQ66.us True.intro True.intro (fun k (x:TupT ST [.int .i64])=>fQ66.f x) fQ66.chk (fun k=>EntsOk.mk True.intro True.intro True.intro) 0
noncomputable def spec_l3Of.f (a0:Int) (l1:List (I_Term)):Option (Int×Int×(List (I_Term))):=some (a0,0,l1)
@[reducible] noncomputable def spec_l3Of.us:List (CutU TT (TupT ST [.int .i64,.int .i64,.lst (.st 3)])):=[]
noncomputable def spec_l3Of.ent:Ent TT:=⟨233,[.one,.one],[.int .i64,.lst (.st 3)],.agg 3,[.int .i64,.int .i64,.lst (.st 3)],fun x=>spec_l3Of.f x.1 x.2⟩
noncomputable def spec_l3Of.ents (k:Nat):Ents TT:=⟨[],[],[]⟩
theorem spec_l3Of.chk (k:Nat) (x:TupT ST [.int .i64,.lst (.st 3)]):runU TT (calF [] (spec_l3Of.ents k)) (jmps spec_l3Of.us k) (finK Try.f233 (retK TT (.agg 3) [.int .i64,.int .i64,.lst (.st 3)])) Try.f233 none (canon (args0 0 (argL [.one,.one] [.int .i64,.lst (.st 3)] x)) [])=spec_l3Of.f x.1 x.2:=by kernel_rfl
theorem spec_l3Of.ok:EntOk Try.prog TT (spec_l3Of.ent):=
 fun_of tbl mixed 233 Try.f233 Try.func233 rfl (by kernel_rfl) [.one,.one] [.int .i64,.lst (.st 3)] (.agg 3) [.int .i64,.int .i64,.lst (.st 3)] (by kernel_rfl) [] spec_l3Of.ents spec_l3Of.us True.intro True.intro (fun k (x:TupT ST [.int .i64,.lst (.st 3)])=>spec_l3Of.f x.1 x.2) spec_l3Of.chk (fun k=>EntsOk.mk True.intro True.intro True.intro) 0
noncomputable def fQ61.f (l0:List (I_Sym)) (a1:Int):Option (Bool):=(spec_l1In.f a1 0 (wrap64 ((l0.length:Int) - 1))).bind fun t1=>(if t1=true then (if 0≤a1 then (if a1<(l0.length:Int) then (some ((rd_I_Sym l0 a1).f2)) else none) else none) else (some false))
@[reducible] noncomputable def fQ61.us:List (CutU TT (TupT ST [.bool])):=[]
noncomputable def fQ61.ent:Ent TT:=⟨231,[.one,.one],[.lst (.st 0),.int .i64],.one,[.bool],fun x=>fQ61.f x.1 x.2⟩
noncomputable def fQ61.ents (k:Nat):Ents TT:=⟨[spec_l1In.ent],[],[]⟩
noncomputable def fQ61.raw (k:Nat) (l0:List (I_Sym)) (a1:Int):Option (Bool):=(spec_l1In.f a1 0 (wr .i64 ((l0.length:Int) - 1))).bind fun t1=>(if t1=true then (if 0≤a1 then (if a1<(l0.length:Int) then (some ((rd_I_Sym l0 a1).f2)) else none) else none) else (some false))
theorem fQ61.clean (k:Nat) (l0:List (I_Sym)) (a1:Int):fQ61.raw k l0 a1=fQ61.f l0 a1:=by
 rw [fQ61.raw,fQ61.f]
 simp only [wr_i64]
theorem fQ61.chk (k:Nat) (x:TupT ST [.lst (.st 0),.int .i64]):runU TT (calF [] (fQ61.ents k)) (jmps fQ61.us k) (finK Try.f231 (retK TT (.one) [.bool])) Try.f231 none (canon (args0 0 (argL [.one,.one] [.lst (.st 0),.int .i64] x)) [])=fQ61.f x.1 x.2:=Eq.trans (show _=fQ61.raw k x.1 x.2 by kernel_rfl) (fQ61.clean k x.1 x.2)
theorem fQ61.ok:EntOk Try.prog TT (fQ61.ent):=
 fun_of tbl mixed 231 Try.f231 Try.func231 rfl (by kernel_rfl) [.one,.one] [.lst (.st 0),.int .i64] (.one) [.bool] (by kernel_rfl) [] fQ61.ents fQ61.us True.intro True.intro (fun k (x:TupT ST [.lst (.st 0),.int .i64])=>fQ61.f x.1 x.2) fQ61.chk (fun k=>EntsOk.mk (And.intro spec_l1In.ok True.intro) True.intro True.intro) 0
noncomputable def fQ52.l0:Nat→List (I_Term)→Int→Int→Int→List (I_Term)→Option ((List (I_Term)))
 | 0,_,_,_,_,_=>none
 | k+1,x0,x5,b3_0,b3_1,b3_2=>if x5<(x0.length:Int) then (if 0≤x5 then ((fQ28.f k b3_0 b3_1 b3_2 ((rd_I_Term x0 x5).f0) ((rd_I_Term x0 x5).f1) ((rd_I_Term x0 x5).f2)).bind fun t1=>(if t1=true then (if x5≤(x0.length:Int) then (if ([]:List (I_Term)).length+(x0.take (x5:Int).toNat).length≤1099511627776 then (if (([]:List (I_Term))++(x0.take (x5:Int).toNat)).length+([⟨b3_0,b3_1,b3_2⟩]:List (I_Term)).length≤1099511627776 then (if ((([]:List (I_Term))++(x0.take (x5:Int).toNat))++([⟨b3_0,b3_1,b3_2⟩]:List (I_Term))).length+(x0.drop (x5:Int).toNat).length≤1099511627776 then (some (((([]:List (I_Term))++(x0.take (x5:Int).toNat))++([⟨b3_0,b3_1,b3_2⟩]:List (I_Term)))++(x0.drop (x5:Int).toNat))) else none) else none) else none) else none) else (fQ52.l0 k x0 (wrap64 (x5+1)) b3_0 b3_1 b3_2))) else none) else (if 0≤x5 then (if x5≤(x0.length:Int) then (if ([]:List (I_Term)).length+(x0.take (x5:Int).toNat).length≤1099511627776 then (if (([]:List (I_Term))++(x0.take (x5:Int).toNat)).length+([⟨b3_0,b3_1,b3_2⟩]:List (I_Term)).length≤1099511627776 then (if ((([]:List (I_Term))++(x0.take (x5:Int).toNat))++([⟨b3_0,b3_1,b3_2⟩]:List (I_Term))).length+(x0.drop (x5:Int).toNat).length≤1099511627776 then (some (((([]:List (I_Term))++(x0.take (x5:Int).toNat))++([⟨b3_0,b3_1,b3_2⟩]:List (I_Term)))++(x0.drop (x5:Int).toNat))) else none) else none) else none) else none) else none)
noncomputable def fQ52.f (k:Nat) (l0:List (I_Term)) (a1_0:Int) (a1_1:Int) (l1_2:List (I_Term)):Option ((List (I_Term))):=fQ52.l0 k l0 0 a1_0 a1_1 l1_2
noncomputable def fQ52.l0.c:Cut:=⟨[0],[(3,2)],[(0,.one),(3,.ptr 3 0),(5,.one)],[(3,[.one,.one,.one])],[],[.lst (.st 3),.int .i64,.int .i64,.int .i64,.lst (.st 3)]⟩
@[reducible] noncomputable def fQ52.us:List (CutU TT (TupT ST [.lst (.st 3)])):=[⟨2,fQ52.l0.c,fun k x=>fQ52.l0 k x.1 x.2.1 x.2.2.1 x.2.2.2.1 x.2.2.2.2⟩]
noncomputable def fQ52.ent (k:Nat):Ent TT:=⟨293,[.one,.agg 3],[.lst (.st 3),.int .i64,.int .i64,.lst (.st 3)],.one,[.lst (.st 3)],fun x=>fQ52.f k x.1 x.2.1 x.2.2.1 x.2.2.2⟩
noncomputable def fQ52.ents (k:Nat):Ents TT:=⟨[fQ28.ent k],[],[]⟩
noncomputable def fQ52.l0.raw (k:Nat) (x0:List (I_Term)) (x5:Int) (b3_0:Int) (b3_1:Int) (b3_2:List (I_Term)):Option ((List (I_Term))):=if x5<(x0.length:Int) then (if 0≤x5 then (if x5<(x0.length:Int) then ((fQ28.f k b3_0 b3_1 b3_2 ((rd_I_Term x0 x5).f0) ((rd_I_Term x0 x5).f1) ((rd_I_Term x0 x5).f2)).bind fun t1=>(if (!t1)=true then (fQ52.l0 k x0 (wr .i64 (x5+1)) b3_0 b3_1 b3_2) else (if 0≤x5 then (if x5≤(x0.length:Int) then (if ([]:List (I_Term)).length+(x0.take (x5:Int).toNat).length≤1099511627776 then (if (([]:List (I_Term))++(x0.take (x5:Int).toNat)).length+([⟨b3_0,b3_1,b3_2⟩]:List (I_Term)).length≤1099511627776 then (if 0≤x5 then (if x5≤(x0.length:Int) then (if ((([]:List (I_Term))++(x0.take (x5:Int).toNat))++([⟨b3_0,b3_1,b3_2⟩]:List (I_Term))).length+(x0.drop (x5:Int).toNat).length≤1099511627776 then (some (((([]:List (I_Term))++(x0.take (x5:Int).toNat))++([⟨b3_0,b3_1,b3_2⟩]:List (I_Term)))++(x0.drop (x5:Int).toNat))) else none) else none) else none) else none) else none) else none) else none))) else none) else none) else (if 0≤x5 then (if x5≤(x0.length:Int) then (if ([]:List (I_Term)).length+(x0.take (x5:Int).toNat).length≤1099511627776 then (if (([]:List (I_Term))++(x0.take (x5:Int).toNat)).length+([⟨b3_0,b3_1,b3_2⟩]:List (I_Term)).length≤1099511627776 then (if 0≤x5 then (if x5≤(x0.length:Int) then (if ((([]:List (I_Term))++(x0.take (x5:Int).toNat))++([⟨b3_0,b3_1,b3_2⟩]:List (I_Term))).length+(x0.drop (x5:Int).toNat).length≤1099511627776 then (some (((([]:List (I_Term))++(x0.take (x5:Int).toNat))++([⟨b3_0,b3_1,b3_2⟩]:List (I_Term)))++(x0.drop (x5:Int).toNat))) else none) else none) else none) else none) else none) else none) else none)
theorem fQ52.l0.clean (k:Nat) (x0:List (I_Term)) (x5:Int) (b3_0:Int) (b3_1:Int) (b3_2:List (I_Term)):fQ52.l0.raw k x0 x5 b3_0 b3_1 b3_2=fQ52.l0 (k+1) x0 x5 b3_0 b3_1 b3_2:=by
 rw [fQ52.l0.raw,fQ52.l0]
 simp only [wr_i64]
 exact ite_congr rfl (fun h0=>ite_congr rfl (fun h1=>Eq.trans (if_pos h0) (bind_cg fun t1=>(Eq.trans (ite_nb _ _ _) (ite_congr rfl (fun h2=>Eq.trans (if_pos h1) (ite_congr rfl (fun h3=>ite_congr rfl (fun h4=>ite_congr rfl (fun h5=>Eq.trans (if_pos h1) (if_pos h3)) (fun h5=>rfl)) (fun h4=>rfl)) (fun h3=>rfl))) (fun h2=>rfl))))) (fun h1=>rfl)) (fun h0=>ite_congr rfl (fun h1=>ite_congr rfl (fun h2=>ite_congr rfl (fun h3=>ite_congr rfl (fun h4=>Eq.trans (if_pos h1) (if_pos h2)) (fun h4=>rfl)) (fun h3=>rfl)) (fun h2=>rfl)) (fun h1=>rfl))
theorem fQ52.l0.chk (k:Nat) (x:TupT ST [.lst (.st 3),.int .i64,.int .i64,.int .i64,.lst (.st 3)]):runU TT (calF [] (fQ52.ents k)) (jmps fQ52.us k) (finK Try.f293 (retK TT (.one) [.lst (.st 3)])) Try.f293 (some 2) (canonC fQ52.l0.c x)=fQ52.l0 (k+1) x.1 x.2.1 x.2.2.1 x.2.2.2.1 x.2.2.2.2:=Eq.trans (show _=fQ52.l0.raw k x.1 x.2.1 x.2.2.1 x.2.2.2.1 x.2.2.2.2 by kernel_rfl) (fQ52.l0.clean k x.1 x.2.1 x.2.2.1 x.2.2.2.1 x.2.2.2.2)
theorem fQ52.chk (k:Nat) (x:TupT ST [.lst (.st 3),.int .i64,.int .i64,.lst (.st 3)]):runU TT (calF [] (fQ52.ents k)) (jmps fQ52.us k) (finK Try.f293 (retK TT (.one) [.lst (.st 3)])) Try.f293 none (canon (args0 0 (argL [.one,.agg 3] [.lst (.st 3),.int .i64,.int .i64,.lst (.st 3)] x)) [])=fQ52.f k x.1 x.2.1 x.2.2.1 x.2.2.2:=by kernel_rfl
theorem fQ52.ok (k:Nat):EntOk Try.prog TT (fQ52.ent k):=
 fun_of tbl mixed 293 Try.f293 Try.func293 rfl (by kernel_rfl) [.one,.agg 3] [.lst (.st 3),.int .i64,.int .i64,.lst (.st 3)] (.one) [.lst (.st 3)] (by kernel_rfl) [] fQ52.ents fQ52.us (And.intro (fun _=>rfl) True.intro) (And.intro fQ52.l0.chk True.intro) (fun k (x:TupT ST [.lst (.st 3),.int .i64,.int .i64,.lst (.st 3)])=>fQ52.f k x.1 x.2.1 x.2.2.1 x.2.2.2) fQ52.chk (fun k=>EntsOk.mk (And.intro (fQ28.ok k) True.intro) True.intro True.intro) k
noncomputable def fQ26.l0:Nat→List (I_Term)→Int→Int→Int→List (I_Term)→Option ((List (I_Term)))
 | 0,_,_,_,_,_=>none
 | k+1,x0,x5,b3_0,b3_1,b3_2=>if x5<(x0.length:Int) then (if 0≤x5 then ((fQ28.f k b3_0 b3_1 b3_2 ((rd_I_Term x0 x5).f0) ((rd_I_Term x0 x5).f1) ((rd_I_Term x0 x5).f2)).bind fun t1=>(if t1=true then (if x5≤(x0.length:Int) then (if ([]:List (I_Term)).length+(x0.take (x5:Int).toNat).length≤1099511627776 then (if (([]:List (I_Term))++(x0.take (x5:Int).toNat)).length+([⟨b3_0,b3_1,b3_2⟩]:List (I_Term)).length≤1099511627776 then (if ((([]:List (I_Term))++(x0.take (x5:Int).toNat))++([⟨b3_0,b3_1,b3_2⟩]:List (I_Term))).length+(x0.drop (x5:Int).toNat).length≤1099511627776 then (some (((([]:List (I_Term))++(x0.take (x5:Int).toNat))++([⟨b3_0,b3_1,b3_2⟩]:List (I_Term)))++(x0.drop (x5:Int).toNat))) else none) else none) else none) else none) else (fQ26.l0 k x0 (wrap64 (x5+1)) b3_0 b3_1 b3_2))) else none) else (if 0≤x5 then (if x5≤(x0.length:Int) then (if ([]:List (I_Term)).length+(x0.take (x5:Int).toNat).length≤1099511627776 then (if (([]:List (I_Term))++(x0.take (x5:Int).toNat)).length+([⟨b3_0,b3_1,b3_2⟩]:List (I_Term)).length≤1099511627776 then (if ((([]:List (I_Term))++(x0.take (x5:Int).toNat))++([⟨b3_0,b3_1,b3_2⟩]:List (I_Term))).length+(x0.drop (x5:Int).toNat).length≤1099511627776 then (some (((([]:List (I_Term))++(x0.take (x5:Int).toNat))++([⟨b3_0,b3_1,b3_2⟩]:List (I_Term)))++(x0.drop (x5:Int).toNat))) else none) else none) else none) else none) else none)
noncomputable def fQ26.f (k:Nat) (l0:List (I_Term)) (a1_0:Int) (a1_1:Int) (a1_2:List (I_Term)):Option ((List (I_Term))):=fQ26.l0 k l0 0 a1_0 a1_1 a1_2
noncomputable def fQ26.pin:Cut:=⟨[0],[],[(0,.one),(1,.agg [.one,.one,.one])],[],[],[.lst (.st 3),.int .i64,.int .i64,.lst (.st 3)]⟩
noncomputable def fQ26.pout:Cut:=⟨[],[],[(4,.own 22)],[],[(22,.st 3)],[.lst (.st 3)]⟩
noncomputable def fQ26.l0.c:Cut:=⟨[0],[(3,2)],[(0,.one),(3,.ptr 3 0),(5,.one)],[(3,[.one,.one,.one])],[],[.lst (.st 3),.int .i64,.int .i64,.int .i64,.lst (.st 3)]⟩
@[reducible] noncomputable def fQ26.us:List (CutU TT (TupT ST fQ26.pout.es)):=[⟨2,fQ26.l0.c,fun k x=>fQ26.l0 k x.1 x.2.1 x.2.2.1 x.2.2.2.1 x.2.2.2.2⟩]
noncomputable def fQ26.ent (k:Nat):Ent2 TT:=⟨293,2,fQ26.pin,fQ26.pout,Try.f293.results.toList,fun x=>fQ26.f k x.1 x.2.1 x.2.2.1 x.2.2.2⟩
noncomputable def fQ26.ents (k:Nat):Ents TT:=⟨[fQ28.ent k],[],[]⟩
noncomputable def fQ26.l0.raw (k:Nat) (x0:List (I_Term)) (x5:Int) (b3_0:Int) (b3_1:Int) (b3_2:List (I_Term)):Option ((List (I_Term))):=if x5<(x0.length:Int) then (if 0≤x5 then (if x5<(x0.length:Int) then ((fQ28.f k b3_0 b3_1 b3_2 ((rd_I_Term x0 x5).f0) ((rd_I_Term x0 x5).f1) ((rd_I_Term x0 x5).f2)).bind fun t1=>(if (!t1)=true then (fQ26.l0 k x0 (wr .i64 (x5+1)) b3_0 b3_1 b3_2) else (if 0≤x5 then (if x5≤(x0.length:Int) then (if ([]:List (I_Term)).length+(x0.take (x5:Int).toNat).length≤1099511627776 then (if (([]:List (I_Term))++(x0.take (x5:Int).toNat)).length+([⟨b3_0,b3_1,b3_2⟩]:List (I_Term)).length≤1099511627776 then (if 0≤x5 then (if x5≤(x0.length:Int) then (if ((([]:List (I_Term))++(x0.take (x5:Int).toNat))++([⟨b3_0,b3_1,b3_2⟩]:List (I_Term))).length+(x0.drop (x5:Int).toNat).length≤1099511627776 then (some (((([]:List (I_Term))++(x0.take (x5:Int).toNat))++([⟨b3_0,b3_1,b3_2⟩]:List (I_Term)))++(x0.drop (x5:Int).toNat))) else none) else none) else none) else none) else none) else none) else none))) else none) else none) else (if 0≤x5 then (if x5≤(x0.length:Int) then (if ([]:List (I_Term)).length+(x0.take (x5:Int).toNat).length≤1099511627776 then (if (([]:List (I_Term))++(x0.take (x5:Int).toNat)).length+([⟨b3_0,b3_1,b3_2⟩]:List (I_Term)).length≤1099511627776 then (if 0≤x5 then (if x5≤(x0.length:Int) then (if ((([]:List (I_Term))++(x0.take (x5:Int).toNat))++([⟨b3_0,b3_1,b3_2⟩]:List (I_Term))).length+(x0.drop (x5:Int).toNat).length≤1099511627776 then (some (((([]:List (I_Term))++(x0.take (x5:Int).toNat))++([⟨b3_0,b3_1,b3_2⟩]:List (I_Term)))++(x0.drop (x5:Int).toNat))) else none) else none) else none) else none) else none) else none) else none)
theorem fQ26.l0.clean (k:Nat) (x0:List (I_Term)) (x5:Int) (b3_0:Int) (b3_1:Int) (b3_2:List (I_Term)):fQ26.l0.raw k x0 x5 b3_0 b3_1 b3_2=fQ26.l0 (k+1) x0 x5 b3_0 b3_1 b3_2:=by
 rw [fQ26.l0.raw,fQ26.l0]
 simp only [wr_i64]
 exact ite_congr rfl (fun h0=>ite_congr rfl (fun h1=>Eq.trans (if_pos h0) (bind_cg fun t1=>(Eq.trans (ite_nb _ _ _) (ite_congr rfl (fun h2=>Eq.trans (if_pos h1) (ite_congr rfl (fun h3=>ite_congr rfl (fun h4=>ite_congr rfl (fun h5=>Eq.trans (if_pos h1) (if_pos h3)) (fun h5=>rfl)) (fun h4=>rfl)) (fun h3=>rfl))) (fun h2=>rfl))))) (fun h1=>rfl)) (fun h0=>ite_congr rfl (fun h1=>ite_congr rfl (fun h2=>ite_congr rfl (fun h3=>ite_congr rfl (fun h4=>Eq.trans (if_pos h1) (if_pos h2)) (fun h4=>rfl)) (fun h3=>rfl)) (fun h2=>rfl)) (fun h1=>rfl))
theorem fQ26.l0.chk (k:Nat) (x:TupT ST [.lst (.st 3),.int .i64,.int .i64,.int .i64,.lst (.st 3)]):runU TT (calF [] (fQ26.ents k)) (jmps fQ26.us k) (finC fQ26.pout Try.f293.results.toList) Try.f293 (some 2) (canonC fQ26.l0.c x)=fQ26.l0 (k+1) x.1 x.2.1 x.2.2.1 x.2.2.2.1 x.2.2.2.2:=Eq.trans (show _=fQ26.l0.raw k x.1 x.2.1 x.2.2.1 x.2.2.2.1 x.2.2.2.2 by kernel_rfl) (fQ26.l0.clean k x.1 x.2.1 x.2.2.1 x.2.2.2.1 x.2.2.2.2)
theorem fQ26.chk (k:Nat) (x:TupT ST fQ26.pin.es):runU TT (calF [] (fQ26.ents k)) (jmps fQ26.us k) (finC fQ26.pout Try.f293.results.toList) Try.f293 none (canonC fQ26.pin x)=fQ26.f k x.1 x.2.1 x.2.2.1 x.2.2.2:=by kernel_rfl
theorem fQ26.ok (k:Nat):Ent2Ok Try.prog TT (fQ26.ent k):=
 fun_of2 tbl mixed 293 Try.f293 Try.func293 rfl (by kernel_rfl) 2 fQ26.pin fQ26.pout (by kernel_rfl) [] fQ26.ents fQ26.us (And.intro (fun _=>rfl) True.intro) (And.intro fQ26.l0.chk True.intro) (fun k (x:TupT ST fQ26.pin.es)=>fQ26.f k x.1 x.2.1 x.2.2.1 x.2.2.2) fQ26.chk (fun k=>EntsOk.mk (And.intro (fQ28.ok k) True.intro) True.intro True.intro) k
mutual
noncomputable def spec_Norm.l0:Nat→List (I_Sym)→Int→Int→Int→List (I_Term)→Int→Int→Int→Int→List (I_Term)→Option (Int×Int×(List (I_Term)))
 | 0,_,_,_,_,_,_,_,_,_,_=>none
 | k+1,x0,x6,b3_0,b3_1,b3_2,b4_0,b4_1,b5_0,b5_1,b5_2=>if x6<(b3_2.length:Int) then (if 0≤x6 then ((spec_Norm.f k x0 ((rd_I_Term b3_2 x6).f0) ((rd_I_Term b3_2 x6).f1) ((rd_I_Term b3_2 x6).f2)).bind fun t1=>((fQ61.f x0 b3_0).bind fun t2=>(if t2=true then (if t1.1=b3_0 then (spec_Norm.l1 k x0 x6 0 b3_0 b3_1 b3_2 b4_0 b4_1 b5_0 b5_1 b5_2 t1.1 t1.2.1 t1.2.2) else ((fQ26.f k b5_2 t1.1 t1.2.1 t1.2.2).bind fun t3=>(spec_Norm.l0 k x0 (wrap64 (x6+1)) b3_0 b3_1 b3_2 b4_0 b4_1 b5_0 b5_1 t3))) else (if b5_2.length+([⟨t1.1,t1.2.1,t1.2.2⟩]:List (I_Term)).length≤1099511627776 then (spec_Norm.l0 k x0 (wrap64 (x6+1)) b3_0 b3_1 b3_2 b4_0 b4_1 b5_0 b5_1 (b5_2++([⟨t1.1,t1.2.1,t1.2.2⟩]:List (I_Term)))) else none)))) else none) else (some (b5_0,b5_1,b5_2))
noncomputable def spec_Norm.l1:Nat→List (I_Sym)→Int→Int→Int→Int→List (I_Term)→Int→Int→Int→Int→List (I_Term)→Int→Int→List (I_Term)→Option (Int×Int×(List (I_Term)))
 | 0,_,_,_,_,_,_,_,_,_,_,_,_,_,_=>none
 | k+1,x0,x6,x8,b3_0,b3_1,b3_2,b4_0,b4_1,b5_0,b5_1,b5_2,b7_0,b7_1,b7_2=>if x8<(b7_2.length:Int) then (if 0≤x8 then ((fQ26.f k b5_2 ((rd_I_Term b7_2 x8).f0) ((rd_I_Term b7_2 x8).f1) ((rd_I_Term b7_2 x8).f2)).bind fun t4=>(spec_Norm.l1 k x0 x6 (wrap64 (x8+1)) b3_0 b3_1 b3_2 b4_0 b4_1 b5_0 b5_1 t4 b7_0 b7_1 b7_2)) else none) else (spec_Norm.l0 k x0 (wrap64 (x6+1)) b3_0 b3_1 b3_2 b4_0 b4_1 b5_0 b5_1 b5_2)
noncomputable def spec_Norm.f:Nat→List (I_Sym)→Int→Int→List (I_Term)→Option (Int×Int×(List (I_Term)))
 | 0,_,_,_,_=>none
 | k+1,l0,a1_0,a1_1,l1_2=>spec_Norm.l0 k l0 0 a1_0 a1_1 l1_2 0 0 a1_0 a1_1 []
end
noncomputable def spec_Norm.ent (k:Nat):Ent TT:=⟨265,[.one,.agg 3],[.lst (.st 0),.int .i64,.int .i64,.lst (.st 3)],.agg 3,[.int .i64,.int .i64,.lst (.st 3)],fun x=>spec_Norm.f k x.1 x.2.1 x.2.2.1 x.2.2.2⟩
noncomputable def spec_Norm.l0.c:Cut:=⟨[0],[(3,2)],[(0,.one),(3,.ptr 3 0),(4,.ptr 4 0),(5,.ptr 5 0),(6,.one)],[(3,[.one,.one,.one]),(4,[.one,.one,.nil]),(5,[.one,.one,.own 54])],[(54,.st 3)],[.lst (.st 0),.int .i64,.int .i64,.int .i64,.lst (.st 3),.int .i64,.int .i64,.int .i64,.int .i64,.lst (.st 3)]⟩
noncomputable def spec_Norm.l1.c:Cut:=⟨[0],[(3,2),(7,2)],[(0,.one),(3,.ptr 3 0),(4,.ptr 4 0),(5,.ptr 5 0),(6,.one),(7,.ptr 7 0),(8,.one)],[(3,[.one,.one,.one]),(4,[.one,.one,.nil]),(5,[.one,.one,.own 1507371]),(7,[.one,.one,.one])],[(1507371,.st 3)],[.lst (.st 0),.int .i64,.int .i64,.int .i64,.int .i64,.lst (.st 3),.int .i64,.int .i64,.int .i64,.int .i64,.int .i64,.int .i64,.lst (.st 3),.lst (.st 3)]⟩
@[reducible] noncomputable def spec_Norm.us:List (CutU TT (TupT ST [.int .i64,.int .i64,.lst (.st 3)])):=[⟨3,spec_Norm.l0.c,fun k x=>spec_Norm.l0 k x.1 x.2.1 x.2.2.1 x.2.2.2.1 x.2.2.2.2.1 x.2.2.2.2.2.1 x.2.2.2.2.2.2.1 x.2.2.2.2.2.2.2.1 x.2.2.2.2.2.2.2.2.1 x.2.2.2.2.2.2.2.2.2⟩,⟨7,spec_Norm.l1.c,fun k x=>spec_Norm.l1 k x.1 x.2.1 x.2.2.1 x.2.2.2.1 x.2.2.2.2.1 x.2.2.2.2.2.1 x.2.2.2.2.2.2.1 x.2.2.2.2.2.2.2.1 x.2.2.2.2.2.2.2.2.1 x.2.2.2.2.2.2.2.2.2.1 x.2.2.2.2.2.2.2.2.2.2.2.2.2 x.2.2.2.2.2.2.2.2.2.2.1 x.2.2.2.2.2.2.2.2.2.2.2.1 x.2.2.2.2.2.2.2.2.2.2.2.2.1⟩]
noncomputable def spec_Norm.ents (k:Nat):Ents TT:=⟨[spec_Norm.ent k,fQ61.ent],[fQ26.ent k],[]⟩
noncomputable def spec_Norm.l0.raw (k:Nat) (x0:List (I_Sym)) (x6:Int) (b3_0:Int) (b3_1:Int) (b3_2:List (I_Term)) (b4_0:Int) (b4_1:Int) (b5_0:Int) (b5_1:Int) (b5_2:List (I_Term)):Option (Int×Int×(List (I_Term))):=if x6<(b3_2.length:Int) then (if 0≤x6 then (if x6<(b3_2.length:Int) then ((spec_Norm.f k x0 ((rd_I_Term b3_2 x6).f0) ((rd_I_Term b3_2 x6).f1) ((rd_I_Term b3_2 x6).f2)).bind fun t1=>((fQ61.f x0 b3_0).bind fun t2=>(if (!t2)=true then (if b5_2.length+([⟨t1.1,t1.2.1,t1.2.2⟩]:List (I_Term)).length≤1099511627776 then (spec_Norm.l0 k x0 (wr .i64 (x6+1)) b3_0 b3_1 b3_2 b4_0 b4_1 b5_0 b5_1 (b5_2++([⟨t1.1,t1.2.1,t1.2.2⟩]:List (I_Term)))) else none) else (if ¬t1.1=b3_0 then ((fQ26.f k b5_2 t1.1 t1.2.1 t1.2.2).bind fun t3=>(spec_Norm.l0 k x0 (wr .i64 (x6+1)) b3_0 b3_1 b3_2 b4_0 b4_1 b5_0 b5_1 t3)) else (spec_Norm.l1 k x0 x6 0 b3_0 b3_1 b3_2 b4_0 b4_1 b5_0 b5_1 b5_2 t1.1 t1.2.1 t1.2.2))))) else none) else none) else (some (b5_0,b5_1,b5_2))
theorem spec_Norm.l0.clean (k:Nat) (x0:List (I_Sym)) (x6:Int) (b3_0:Int) (b3_1:Int) (b3_2:List (I_Term)) (b4_0:Int) (b4_1:Int) (b5_0:Int) (b5_1:Int) (b5_2:List (I_Term)):spec_Norm.l0.raw k x0 x6 b3_0 b3_1 b3_2 b4_0 b4_1 b5_0 b5_1 b5_2=spec_Norm.l0 (k+1) x0 x6 b3_0 b3_1 b3_2 b4_0 b4_1 b5_0 b5_1 b5_2:=by
 rw [spec_Norm.l0.raw,spec_Norm.l0]
 simp only [wr_i64]
 exact ite_congr rfl (fun h0=>ite_congr rfl (fun h1=>Eq.trans (if_pos h0) (bind_cg fun t1=>(bind_cg fun t2=>(Eq.trans (ite_nb _ _ _) (ite_congr rfl (fun h2=>ite_ng _ _) (fun h2=>rfl)))))) (fun h1=>rfl)) (fun h0=>rfl)
theorem spec_Norm.l0.chk (k:Nat) (x:TupT ST [.lst (.st 0),.int .i64,.int .i64,.int .i64,.lst (.st 3),.int .i64,.int .i64,.int .i64,.int .i64,.lst (.st 3)]):runU TT (calF [] (spec_Norm.ents k)) (jmps spec_Norm.us k) (finK Try.f265 (retK TT (.agg 3) [.int .i64,.int .i64,.lst (.st 3)])) Try.f265 (some 3) (canonC spec_Norm.l0.c x)=spec_Norm.l0 (k+1) x.1 x.2.1 x.2.2.1 x.2.2.2.1 x.2.2.2.2.1 x.2.2.2.2.2.1 x.2.2.2.2.2.2.1 x.2.2.2.2.2.2.2.1 x.2.2.2.2.2.2.2.2.1 x.2.2.2.2.2.2.2.2.2:=Eq.trans (show _=spec_Norm.l0.raw k x.1 x.2.1 x.2.2.1 x.2.2.2.1 x.2.2.2.2.1 x.2.2.2.2.2.1 x.2.2.2.2.2.2.1 x.2.2.2.2.2.2.2.1 x.2.2.2.2.2.2.2.2.1 x.2.2.2.2.2.2.2.2.2 by kernel_rfl) (spec_Norm.l0.clean k x.1 x.2.1 x.2.2.1 x.2.2.2.1 x.2.2.2.2.1 x.2.2.2.2.2.1 x.2.2.2.2.2.2.1 x.2.2.2.2.2.2.2.1 x.2.2.2.2.2.2.2.2.1 x.2.2.2.2.2.2.2.2.2)
noncomputable def spec_Norm.l1.raw (k:Nat) (x0:List (I_Sym)) (x6:Int) (x8:Int) (b3_0:Int) (b3_1:Int) (b3_2:List (I_Term)) (b4_0:Int) (b4_1:Int) (b5_0:Int) (b5_1:Int) (b5_2:List (I_Term)) (b7_0:Int) (b7_1:Int) (b7_2:List (I_Term)):Option (Int×Int×(List (I_Term))):=if x8<(b7_2.length:Int) then (if 0≤x8 then (if x8<(b7_2.length:Int) then ((fQ26.f k b5_2 ((rd_I_Term b7_2 x8).f0) ((rd_I_Term b7_2 x8).f1) ((rd_I_Term b7_2 x8).f2)).bind fun t4=>(spec_Norm.l1 k x0 x6 (wr .i64 (x8+1)) b3_0 b3_1 b3_2 b4_0 b4_1 b5_0 b5_1 t4 b7_0 b7_1 b7_2)) else none) else none) else (spec_Norm.l0 k x0 (wr .i64 (x6+1)) b3_0 b3_1 b3_2 b4_0 b4_1 b5_0 b5_1 b5_2)
theorem spec_Norm.l1.clean (k:Nat) (x0:List (I_Sym)) (x6:Int) (x8:Int) (b3_0:Int) (b3_1:Int) (b3_2:List (I_Term)) (b4_0:Int) (b4_1:Int) (b5_0:Int) (b5_1:Int) (b5_2:List (I_Term)) (b7_0:Int) (b7_1:Int) (b7_2:List (I_Term)):spec_Norm.l1.raw k x0 x6 x8 b3_0 b3_1 b3_2 b4_0 b4_1 b5_0 b5_1 b5_2 b7_0 b7_1 b7_2=spec_Norm.l1 (k+1) x0 x6 x8 b3_0 b3_1 b3_2 b4_0 b4_1 b5_0 b5_1 b5_2 b7_0 b7_1 b7_2:=by
 rw [spec_Norm.l1.raw,spec_Norm.l1]
 simp only [wr_i64]
 exact ite_congr rfl (fun h0=>ite_congr rfl (fun h1=>if_pos h0) (fun h1=>rfl)) (fun h0=>rfl)
theorem spec_Norm.l1.chk (k:Nat) (x:TupT ST [.lst (.st 0),.int .i64,.int .i64,.int .i64,.int .i64,.lst (.st 3),.int .i64,.int .i64,.int .i64,.int .i64,.int .i64,.int .i64,.lst (.st 3),.lst (.st 3)]):runU TT (calF [] (spec_Norm.ents k)) (jmps spec_Norm.us k) (finK Try.f265 (retK TT (.agg 3) [.int .i64,.int .i64,.lst (.st 3)])) Try.f265 (some 7) (canonC spec_Norm.l1.c x)=spec_Norm.l1 (k+1) x.1 x.2.1 x.2.2.1 x.2.2.2.1 x.2.2.2.2.1 x.2.2.2.2.2.1 x.2.2.2.2.2.2.1 x.2.2.2.2.2.2.2.1 x.2.2.2.2.2.2.2.2.1 x.2.2.2.2.2.2.2.2.2.1 x.2.2.2.2.2.2.2.2.2.2.2.2.2 x.2.2.2.2.2.2.2.2.2.2.1 x.2.2.2.2.2.2.2.2.2.2.2.1 x.2.2.2.2.2.2.2.2.2.2.2.2.1:=Eq.trans (show _=spec_Norm.l1.raw k x.1 x.2.1 x.2.2.1 x.2.2.2.1 x.2.2.2.2.1 x.2.2.2.2.2.1 x.2.2.2.2.2.2.1 x.2.2.2.2.2.2.2.1 x.2.2.2.2.2.2.2.2.1 x.2.2.2.2.2.2.2.2.2.1 x.2.2.2.2.2.2.2.2.2.2.2.2.2 x.2.2.2.2.2.2.2.2.2.2.1 x.2.2.2.2.2.2.2.2.2.2.2.1 x.2.2.2.2.2.2.2.2.2.2.2.2.1 by kernel_rfl) (spec_Norm.l1.clean k x.1 x.2.1 x.2.2.1 x.2.2.2.1 x.2.2.2.2.1 x.2.2.2.2.2.1 x.2.2.2.2.2.2.1 x.2.2.2.2.2.2.2.1 x.2.2.2.2.2.2.2.2.1 x.2.2.2.2.2.2.2.2.2.1 x.2.2.2.2.2.2.2.2.2.2.2.2.2 x.2.2.2.2.2.2.2.2.2.2.1 x.2.2.2.2.2.2.2.2.2.2.2.1 x.2.2.2.2.2.2.2.2.2.2.2.2.1)
theorem spec_Norm.chk (k:Nat) (x:TupT ST [.lst (.st 0),.int .i64,.int .i64,.lst (.st 3)]):runU TT (calF [] (spec_Norm.ents k)) (jmps spec_Norm.us k) (finK Try.f265 (retK TT (.agg 3) [.int .i64,.int .i64,.lst (.st 3)])) Try.f265 none (canon (args0 0 (argL [.one,.agg 3] [.lst (.st 0),.int .i64,.int .i64,.lst (.st 3)] x)) [])=spec_Norm.f (k+1) x.1 x.2.1 x.2.2.1 x.2.2.2:=by kernel_rfl
theorem spec_Norm.grp:∀k:Nat,EachU (EntOk Try.prog TT) [spec_Norm.ent k]∧EachU (Ent2Ok Try.prog TT) []:=by
 intro k
 induction k using Nat.strongRecOn with
 | ind k ih=>
  exact And.intro (And.intro (fun_in tbl mixed 265 Try.f265 Try.func265 rfl (by kernel_rfl) [.one,.agg 3] [.lst (.st 0),.int .i64,.int .i64,.lst (.st 3)] (.agg 3) [.int .i64,.int .i64,.lst (.st 3)] (by kernel_rfl) [] spec_Norm.ents spec_Norm.us (And.intro (fun _=>rfl) (And.intro (fun _=>rfl) True.intro)) (And.intro spec_Norm.l0.chk (And.intro spec_Norm.l1.chk True.intro)) (fun k (x:TupT ST [.lst (.st 0),.int .i64,.int .i64,.lst (.st 3)])=>spec_Norm.f k x.1 x.2.1 x.2.2.1 x.2.2.2) (fun _=>rfl) spec_Norm.chk k (fun j h=>EntsOk.mk (And.intro (ih j h).1.1 (And.intro fQ61.ok True.intro)) (And.intro (fQ26.ok j) True.intro) True.intro)) True.intro) True.intro
theorem spec_Norm.ok (k:Nat):EntOk Try.prog TT (spec_Norm.ent k):=(spec_Norm.grp k).1.1
mutual
noncomputable def fQ2.l0:Nat→List (I_Term)→Int→Int→Int→Option ((List (I_Term)))
 | 0,_,_,_,_=>none
 | k+1,x0,x1,x2,x8=>if x8<x2 then (fQ2.l1 k x0 x1 x2 x8 x8) else (some x0)
noncomputable def fQ2.l1:Nat→List (I_Term)→Int→Int→Int→Int→Option ((List (I_Term)))
 | 0,_,_,_,_,_=>none
 | k+1,x0,x1,x2,x8,x9=>if x9>x1 then (if 0≤x9 then (if x9<(x0.length:Int) then (if 0≤(wrap64 (x9 - 1)) then (if (wrap64 (x9 - 1))<(x0.length:Int) then ((fQ19.f k ((rd_I_Term x0 x9).f0) ((rd_I_Term x0 x9).f1) ((rd_I_Term x0 x9).f2) ((rd_I_Term x0 (wrap64 (x9 - 1))).f0) ((rd_I_Term x0 (wrap64 (x9 - 1))).f1) ((rd_I_Term x0 (wrap64 (x9 - 1))).f2)).bind fun t1=>(if t1<0 then (if (wrap64 (x9 - 1))<((x0.set (x9:Int).toNat ⟨(rd_I_Term x0 (wrap64 (x9 - 1))).f0,(rd_I_Term x0 (wrap64 (x9 - 1))).f1,(rd_I_Term x0 (wrap64 (x9 - 1))).f2⟩).length:Int) then (fQ2.l1 k ((x0.set (x9:Int).toNat ⟨(rd_I_Term x0 (wrap64 (x9 - 1))).f0,(rd_I_Term x0 (wrap64 (x9 - 1))).f1,(rd_I_Term x0 (wrap64 (x9 - 1))).f2⟩).set (wrap64 (x9 - 1):Int).toNat ⟨(rd_I_Term x0 x9).f0,(rd_I_Term x0 x9).f1,(rd_I_Term x0 x9).f2⟩) x1 x2 x8 (wrap64 (x9 - 1))) else none) else (fQ2.l0 k x0 x1 x2 (wrap64 (x8+1))))) else none) else none) else none) else none) else (fQ2.l0 k x0 x1 x2 (wrap64 (x8+1)))
end
noncomputable def fQ2.f (k:Nat) (l0:List (I_Term)) (a1:Int) (a2:Int):Option ((List (I_Term))):=fQ2.l0 k l0 a1 a2 (wrap64 (a1+1))
noncomputable def fQ2.pin:Cut:=⟨[],[],[(0,.own 2147483648),(1,.one),(2,.one),(3,.clo 163 [])],[],[(2147483648,.st 3)],[.int .i64,.int .i64,.lst (.st 3)]⟩
noncomputable def fQ2.pout:Cut:=⟨[],[],[],[],[(2147483648,.st 3)],[.lst (.st 3)]⟩
noncomputable def fQ2.l0.c:Cut:=⟨[],[],[(0,.own 2147483648),(1,.one),(2,.one),(3,.clo 163 []),(8,.one)],[],[(2147483648,.st 3)],[.int .i64,.int .i64,.int .i64,.lst (.st 3)]⟩
noncomputable def fQ2.l1.c:Cut:=⟨[],[],[(0,.own 2147483648),(1,.one),(2,.one),(3,.clo 163 []),(8,.one),(9,.one)],[],[(2147483648,.st 3)],[.int .i64,.int .i64,.int .i64,.int .i64,.lst (.st 3)]⟩
@[reducible] noncomputable def fQ2.us:List (CutU TT (TupT ST fQ2.pout.es)):=[⟨1,fQ2.l0.c,fun k x=>fQ2.l0 k x.2.2.2 x.1 x.2.1 x.2.2.1⟩,⟨4,fQ2.l1.c,fun k x=>fQ2.l1 k x.2.2.2.2 x.1 x.2.1 x.2.2.1 x.2.2.2.1⟩]
noncomputable def fQ2.ent (k:Nat):Ent2 TT:=⟨279,4,fQ2.pin,fQ2.pout,Try.f279.results.toList,fun x=>fQ2.f k x.2.2 x.1 x.2.1⟩
noncomputable def fQ2.ents (k:Nat):Ents TT:=⟨[fQ19.ent k],[],[]⟩
theorem fQ2.l0.chk (k:Nat) (x:TupT ST [.int .i64,.int .i64,.int .i64,.lst (.st 3)]):runU TT (calF [] (fQ2.ents k)) (jmps fQ2.us k) (finC fQ2.pout Try.f279.results.toList) Try.f279 (some 1) (canonC fQ2.l0.c x)=fQ2.l0 (k+1) x.2.2.2 x.1 x.2.1 x.2.2.1:=by kernel_rfl
noncomputable def fQ2.l1.raw (k:Nat) (x0:List (I_Term)) (x1:Int) (x2:Int) (x8:Int) (x9:Int):Option ((List (I_Term))):=if x9>x1 then (if 0≤x9 then (if x9<(x0.length:Int) then (if 0≤(wr .i64 (x9 - 1)) then (if (wr .i64 (x9 - 1))<(x0.length:Int) then ((fQ19.f k ((rd_I_Term x0 x9).f0) ((rd_I_Term x0 x9).f1) ((rd_I_Term x0 x9).f2) ((rd_I_Term x0 (wr .i64 (x9 - 1))).f0) ((rd_I_Term x0 (wr .i64 (x9 - 1))).f1) ((rd_I_Term x0 (wr .i64 (x9 - 1))).f2)).bind fun t1=>(if t1<0 then (if 0≤(wr .i64 (x9 - 1)) then (if (wr .i64 (x9 - 1))<(x0.length:Int) then (if 0≤x9 then (if x9<(x0.length:Int) then (if 0≤x9 then (if x9<(x0.length:Int) then (if 0≤(wr .i64 (x9 - 1)) then (if (wr .i64 (x9 - 1))<((x0.set (x9:Int).toNat ⟨(rd_I_Term x0 (wr .i64 (x9 - 1))).f0,(rd_I_Term x0 (wr .i64 (x9 - 1))).f1,(rd_I_Term x0 (wr .i64 (x9 - 1))).f2⟩).length:Int) then (fQ2.l1 k ((x0.set (x9:Int).toNat ⟨(rd_I_Term x0 (wr .i64 (x9 - 1))).f0,(rd_I_Term x0 (wr .i64 (x9 - 1))).f1,(rd_I_Term x0 (wr .i64 (x9 - 1))).f2⟩).set (wr .i64 (x9 - 1):Int).toNat ⟨(rd_I_Term x0 x9).f0,(rd_I_Term x0 x9).f1,(rd_I_Term x0 x9).f2⟩) x1 x2 x8 (wr .i64 (x9 - 1))) else none) else none) else none) else none) else none) else none) else none) else none) else (fQ2.l0 k x0 x1 x2 (wr .i64 (x8+1))))) else none) else none) else none) else none) else (fQ2.l0 k x0 x1 x2 (wr .i64 (x8+1)))
theorem fQ2.l1.clean (k:Nat) (x0:List (I_Term)) (x1:Int) (x2:Int) (x8:Int) (x9:Int):fQ2.l1.raw k x0 x1 x2 x8 x9=fQ2.l1 (k+1) x0 x1 x2 x8 x9:=by
 rw [fQ2.l1.raw,fQ2.l1]
 simp only [wr_i64]
 exact ite_congr rfl (fun h0=>ite_congr rfl (fun h1=>ite_congr rfl (fun h2=>ite_congr rfl (fun h3=>ite_congr rfl (fun h4=>bind_cg fun t1=>(ite_congr rfl (fun h5=>Eq.trans (if_pos h3) (Eq.trans (if_pos h4) (Eq.trans (if_pos h1) (Eq.trans (if_pos h2) (Eq.trans (if_pos h1) (Eq.trans (if_pos h2) (if_pos h3))))))) (fun h5=>rfl))) (fun h4=>rfl)) (fun h3=>rfl)) (fun h2=>rfl)) (fun h1=>rfl)) (fun h0=>rfl)
theorem fQ2.l1.chk (k:Nat) (x:TupT ST [.int .i64,.int .i64,.int .i64,.int .i64,.lst (.st 3)]):runU TT (calF [] (fQ2.ents k)) (jmps fQ2.us k) (finC fQ2.pout Try.f279.results.toList) Try.f279 (some 4) (canonC fQ2.l1.c x)=fQ2.l1 (k+1) x.2.2.2.2 x.1 x.2.1 x.2.2.1 x.2.2.2.1:=Eq.trans (show _=fQ2.l1.raw k x.2.2.2.2 x.1 x.2.1 x.2.2.1 x.2.2.2.1 by kernel_rfl) (fQ2.l1.clean k x.2.2.2.2 x.1 x.2.1 x.2.2.1 x.2.2.2.1)
noncomputable def fQ2.raw (k:Nat) (l0:List (I_Term)) (a1:Int) (a2:Int):Option ((List (I_Term))):=fQ2.l0 k l0 a1 a2 (wr .i64 (a1+1))
theorem fQ2.clean (k:Nat) (l0:List (I_Term)) (a1:Int) (a2:Int):fQ2.raw k l0 a1 a2=fQ2.f k l0 a1 a2:=by
 rw [fQ2.raw,fQ2.f]
 simp only [wr_i64]
theorem fQ2.chk (k:Nat) (x:TupT ST fQ2.pin.es):runU TT (calF [] (fQ2.ents k)) (jmps fQ2.us k) (finC fQ2.pout Try.f279.results.toList) Try.f279 none (canonC fQ2.pin x)=fQ2.f k x.2.2 x.1 x.2.1:=Eq.trans (show _=fQ2.raw k x.2.2 x.1 x.2.1 by kernel_rfl) (fQ2.clean k x.2.2 x.1 x.2.1)
theorem fQ2.ok (k:Nat):Ent2Ok Try.prog TT (fQ2.ent k):=
 fun_of2 tbl mixed 279 Try.f279 Try.func279 rfl (by kernel_rfl) 4 fQ2.pin fQ2.pout (by kernel_rfl) [] fQ2.ents fQ2.us (And.intro (fun _=>rfl) (And.intro (fun _=>rfl) True.intro)) (And.intro fQ2.l0.chk (And.intro fQ2.l1.chk True.intro)) (fun k (x:TupT ST fQ2.pin.es)=>fQ2.f k x.2.2 x.1 x.2.1) fQ2.chk (fun k=>EntsOk.mk (And.intro (fQ19.ok k) True.intro) True.intro True.intro) k
noncomputable def fQ5.l0:Nat→List (I_Term)→Int→Int→Int→Int→Option ((List (I_Term)))
 | 0,_,_,_,_,_=>none
 | k+1,x0,x1,x2,x3,x10=>if x10<x3 then (if 0≤(wrap64 (x2+x10)) then (if (wrap64 (x2+x10))<(x0.length:Int) then (if 0≤(wrap64 (x1+x10)) then (if (wrap64 (x1+x10))<(x0.length:Int) then (if (wrap64 (x2+x10))<((x0.set (wrap64 (x1+x10):Int).toNat ⟨(rd_I_Term x0 (wrap64 (x2+x10))).f0,(rd_I_Term x0 (wrap64 (x2+x10))).f1,(rd_I_Term x0 (wrap64 (x2+x10))).f2⟩).length:Int) then (fQ5.l0 k ((x0.set (wrap64 (x1+x10):Int).toNat ⟨(rd_I_Term x0 (wrap64 (x2+x10))).f0,(rd_I_Term x0 (wrap64 (x2+x10))).f1,(rd_I_Term x0 (wrap64 (x2+x10))).f2⟩).set (wrap64 (x2+x10):Int).toNat ⟨(rd_I_Term x0 (wrap64 (x1+x10))).f0,(rd_I_Term x0 (wrap64 (x1+x10))).f1,(rd_I_Term x0 (wrap64 (x1+x10))).f2⟩) x1 x2 x3 (wrap64 (x10+1))) else none) else none) else none) else none) else none) else (some x0)
noncomputable def fQ5.f (k:Nat) (l0:List (I_Term)) (a1:Int) (a2:Int) (a3:Int):Option ((List (I_Term))):=fQ5.l0 k l0 a1 a2 a3 0
noncomputable def fQ5.pin:Cut:=⟨[],[],[(0,.own 2147483648),(1,.one),(2,.one),(3,.one),(4,.clo 163 [])],[],[(2147483648,.st 3)],[.int .i64,.int .i64,.int .i64,.lst (.st 3)]⟩
noncomputable def fQ5.pout:Cut:=⟨[],[],[],[],[(2147483648,.st 3)],[.lst (.st 3)]⟩
noncomputable def fQ5.l0.c:Cut:=⟨[],[],[(0,.own 2147483648),(1,.one),(2,.one),(3,.one),(10,.one)],[],[(2147483648,.st 3)],[.int .i64,.int .i64,.int .i64,.int .i64,.lst (.st 3)]⟩
@[reducible] noncomputable def fQ5.us:List (CutU TT (TupT ST fQ5.pout.es)):=[⟨1,fQ5.l0.c,fun k x=>fQ5.l0 k x.2.2.2.2 x.1 x.2.1 x.2.2.1 x.2.2.2.1⟩]
noncomputable def fQ5.ent (k:Nat):Ent2 TT:=⟨299,5,fQ5.pin,fQ5.pout,Try.f299.results.toList,fun x=>fQ5.f k x.2.2.2 x.1 x.2.1 x.2.2.1⟩
noncomputable def fQ5.ents (k:Nat):Ents TT:=⟨[],[],[]⟩
noncomputable def fQ5.l0.raw (k:Nat) (x0:List (I_Term)) (x1:Int) (x2:Int) (x3:Int) (x10:Int):Option ((List (I_Term))):=if x10<x3 then (if 0≤(wr .i64 (x2+x10)) then (if (wr .i64 (x2+x10))<(x0.length:Int) then (if 0≤(wr .i64 (x1+x10)) then (if (wr .i64 (x1+x10))<(x0.length:Int) then (if 0≤(wr .i64 (x1+x10)) then (if (wr .i64 (x1+x10))<(x0.length:Int) then (if 0≤(wr .i64 (x2+x10)) then (if (wr .i64 (x2+x10))<((x0.set (wr .i64 (x1+x10):Int).toNat ⟨(rd_I_Term x0 (wr .i64 (x2+x10))).f0,(rd_I_Term x0 (wr .i64 (x2+x10))).f1,(rd_I_Term x0 (wr .i64 (x2+x10))).f2⟩).length:Int) then (fQ5.l0 k ((x0.set (wr .i64 (x1+x10):Int).toNat ⟨(rd_I_Term x0 (wr .i64 (x2+x10))).f0,(rd_I_Term x0 (wr .i64 (x2+x10))).f1,(rd_I_Term x0 (wr .i64 (x2+x10))).f2⟩).set (wr .i64 (x2+x10):Int).toNat ⟨(rd_I_Term x0 (wr .i64 (x1+x10))).f0,(rd_I_Term x0 (wr .i64 (x1+x10))).f1,(rd_I_Term x0 (wr .i64 (x1+x10))).f2⟩) x1 x2 x3 (wr .i64 (x10+1))) else none) else none) else none) else none) else none) else none) else none) else none) else (some x0)
theorem fQ5.l0.clean (k:Nat) (x0:List (I_Term)) (x1:Int) (x2:Int) (x3:Int) (x10:Int):fQ5.l0.raw k x0 x1 x2 x3 x10=fQ5.l0 (k+1) x0 x1 x2 x3 x10:=by
 rw [fQ5.l0.raw,fQ5.l0]
 simp only [wr_i64]
 exact ite_congr rfl (fun h0=>ite_congr rfl (fun h1=>ite_congr rfl (fun h2=>ite_congr rfl (fun h3=>ite_congr rfl (fun h4=>Eq.trans (if_pos h3) (Eq.trans (if_pos h4) (if_pos h1))) (fun h4=>rfl)) (fun h3=>rfl)) (fun h2=>rfl)) (fun h1=>rfl)) (fun h0=>rfl)
theorem fQ5.l0.chk (k:Nat) (x:TupT ST [.int .i64,.int .i64,.int .i64,.int .i64,.lst (.st 3)]):runU TT (calF [] (fQ5.ents k)) (jmps fQ5.us k) (finC fQ5.pout Try.f299.results.toList) Try.f299 (some 1) (canonC fQ5.l0.c x)=fQ5.l0 (k+1) x.2.2.2.2 x.1 x.2.1 x.2.2.1 x.2.2.2.1:=Eq.trans (show _=fQ5.l0.raw k x.2.2.2.2 x.1 x.2.1 x.2.2.1 x.2.2.2.1 by kernel_rfl) (fQ5.l0.clean k x.2.2.2.2 x.1 x.2.1 x.2.2.1 x.2.2.2.1)
theorem fQ5.chk (k:Nat) (x:TupT ST fQ5.pin.es):runU TT (calF [] (fQ5.ents k)) (jmps fQ5.us k) (finC fQ5.pout Try.f299.results.toList) Try.f299 none (canonC fQ5.pin x)=fQ5.f k x.2.2.2 x.1 x.2.1 x.2.2.1:=by kernel_rfl
theorem fQ5.ok (k:Nat):Ent2Ok Try.prog TT (fQ5.ent k):=
 fun_of2 tbl mixed 299 Try.f299 Try.func299 rfl (by kernel_rfl) 5 fQ5.pin fQ5.pout (by kernel_rfl) [] fQ5.ents fQ5.us (And.intro (fun _=>rfl) True.intro) (And.intro fQ5.l0.chk True.intro) (fun k (x:TupT ST fQ5.pin.es)=>fQ5.f k x.2.2.2 x.1 x.2.1 x.2.2.1) fQ5.chk (fun k=>EntsOk.mk True.intro True.intro True.intro) k
noncomputable def fQ3.l0:Nat→List (I_Term)→Int→Int→Int→Option ((List (I_Term)))
 | 0,_,_,_,_=>none
 | k+1,x0,x2,x10,x11=>if x10=x11 then ((fQ5.f k x0 (wrap64 (x2 - x10)) x2 x10).bind fun t3=>(some t3)) else (if x10>x11 then ((fQ5.f k x0 (wrap64 (x2 - x10)) x2 x11).bind fun t1=>(fQ3.l0 k t1 x2 (wrap64 (x10 - x11)) x11)) else ((fQ5.f k x0 (wrap64 (x2 - x10)) (wrap64 ((wrap64 (x2+x11)) - x10)) x10).bind fun t2=>(fQ3.l0 k t2 x2 x10 (wrap64 (x11 - x10)))))
noncomputable def fQ3.f (k:Nat) (l0:List (I_Term)) (a1:Int) (a2:Int) (a3:Int):Option ((List (I_Term))):=fQ3.l0 k l0 a2 (wrap64 (a2 - a1)) (wrap64 (a3 - a2))
noncomputable def fQ3.pin:Cut:=⟨[],[],[(0,.own 2147483648),(1,.one),(2,.one),(3,.one),(4,.clo 163 [])],[],[(2147483648,.st 3)],[.int .i64,.int .i64,.int .i64,.lst (.st 3)]⟩
noncomputable def fQ3.pout:Cut:=⟨[],[],[],[],[(2147483648,.st 3)],[.lst (.st 3)]⟩
noncomputable def fQ3.l0.c:Cut:=⟨[],[],[(0,.own 2147483648),(2,.one),(4,.clo 163 []),(10,.one),(11,.one)],[],[(2147483648,.st 3)],[.int .i64,.int .i64,.int .i64,.lst (.st 3)]⟩
@[reducible] noncomputable def fQ3.us:List (CutU TT (TupT ST fQ3.pout.es)):=[⟨2,fQ3.l0.c,fun k x=>fQ3.l0 k x.2.2.2 x.1 x.2.1 x.2.2.1⟩]
noncomputable def fQ3.ent (k:Nat):Ent2 TT:=⟨296,5,fQ3.pin,fQ3.pout,Try.f296.results.toList,fun x=>fQ3.f k x.2.2.2 x.1 x.2.1 x.2.2.1⟩
noncomputable def fQ3.ents (k:Nat):Ents TT:=⟨[],[fQ5.ent k],[]⟩
noncomputable def fQ3.l0.raw (k:Nat) (x0:List (I_Term)) (x2:Int) (x10:Int) (x11:Int):Option ((List (I_Term))):=if ¬x10=x11 then (if x10>x11 then ((fQ5.f k x0 (wr .i64 (x2 - x10)) x2 x11).bind fun t1=>(fQ3.l0 k t1 x2 (wr .i64 (x10 - x11)) x11)) else ((fQ5.f k x0 (wr .i64 (x2 - x10)) (wr .i64 ((wr .i64 (x2+x11)) - x10)) x10).bind fun t2=>(fQ3.l0 k t2 x2 x10 (wr .i64 (x11 - x10))))) else ((fQ5.f k x0 (wr .i64 (x2 - x10)) x2 x10).bind fun t3=>(some t3))
theorem fQ3.l0.clean (k:Nat) (x0:List (I_Term)) (x2:Int) (x10:Int) (x11:Int):fQ3.l0.raw k x0 x2 x10 x11=fQ3.l0 (k+1) x0 x2 x10 x11:=by
 rw [fQ3.l0.raw,fQ3.l0]
 simp only [wr_i64]
 exact ite_ng _ _
theorem fQ3.l0.chk (k:Nat) (x:TupT ST [.int .i64,.int .i64,.int .i64,.lst (.st 3)]):runU TT (calF [] (fQ3.ents k)) (jmps fQ3.us k) (finC fQ3.pout Try.f296.results.toList) Try.f296 (some 2) (canonC fQ3.l0.c x)=fQ3.l0 (k+1) x.2.2.2 x.1 x.2.1 x.2.2.1:=Eq.trans (show _=fQ3.l0.raw k x.2.2.2 x.1 x.2.1 x.2.2.1 by kernel_rfl) (fQ3.l0.clean k x.2.2.2 x.1 x.2.1 x.2.2.1)
noncomputable def fQ3.raw (k:Nat) (l0:List (I_Term)) (a1:Int) (a2:Int) (a3:Int):Option ((List (I_Term))):=fQ3.l0 k l0 a2 (wr .i64 (a2 - a1)) (wr .i64 (a3 - a2))
theorem fQ3.clean (k:Nat) (l0:List (I_Term)) (a1:Int) (a2:Int) (a3:Int):fQ3.raw k l0 a1 a2 a3=fQ3.f k l0 a1 a2 a3:=by
 rw [fQ3.raw,fQ3.f]
 simp only [wr_i64]
theorem fQ3.chk (k:Nat) (x:TupT ST fQ3.pin.es):runU TT (calF [] (fQ3.ents k)) (jmps fQ3.us k) (finC fQ3.pout Try.f296.results.toList) Try.f296 none (canonC fQ3.pin x)=fQ3.f k x.2.2.2 x.1 x.2.1 x.2.2.1:=Eq.trans (show _=fQ3.raw k x.2.2.2 x.1 x.2.1 x.2.2.1 by kernel_rfl) (fQ3.clean k x.2.2.2 x.1 x.2.1 x.2.2.1)
theorem fQ3.ok (k:Nat):Ent2Ok Try.prog TT (fQ3.ent k):=
 fun_of2 tbl mixed 296 Try.f296 Try.func296 rfl (by kernel_rfl) 5 fQ3.pin fQ3.pout (by kernel_rfl) [] fQ3.ents fQ3.us (And.intro (fun _=>rfl) True.intro) (And.intro fQ3.l0.chk True.intro) (fun k (x:TupT ST fQ3.pin.es)=>fQ3.f k x.2.2.2 x.1 x.2.1 x.2.2.1) fQ3.chk (fun k=>EntsOk.mk True.intro (And.intro (fQ5.ok k) True.intro) True.intro) k
mutual
noncomputable def fQ0.l0:Nat→List (I_Term)→Int→Int→Int→Option ((List (I_Term)))
 | 0,_,_,_,_=>none
 | k+1,x0,x1,x10,x11=>if x10<x11 then (if 0≤(wrap64 (Int.fdiv (IntKind.wrap .u64 (wrap64 (x10+x11))) (2 ^ (min (1:Int).toNat 64)))) then (if (wrap64 (Int.fdiv (IntKind.wrap .u64 (wrap64 (x10+x11))) (2 ^ (min (1:Int).toNat 64))))<(x0.length:Int) then (if 0≤x1 then (if x1<(x0.length:Int) then ((fQ19.f k ((rd_I_Term x0 (wrap64 (Int.fdiv (IntKind.wrap .u64 (wrap64 (x10+x11))) (2 ^ (min (1:Int).toNat 64))))).f0) ((rd_I_Term x0 (wrap64 (Int.fdiv (IntKind.wrap .u64 (wrap64 (x10+x11))) (2 ^ (min (1:Int).toNat 64))))).f1) ((rd_I_Term x0 (wrap64 (Int.fdiv (IntKind.wrap .u64 (wrap64 (x10+x11))) (2 ^ (min (1:Int).toNat 64))))).f2) ((rd_I_Term x0 x1).f0) ((rd_I_Term x0 x1).f1) ((rd_I_Term x0 x1).f2)).bind fun t1=>(if t1<0 then (fQ0.l0 k x0 x1 (wrap64 ((wrap64 (Int.fdiv (IntKind.wrap .u64 (wrap64 (x10+x11))) (2 ^ (min (1:Int).toNat 64))))+1)) x11) else (fQ0.l0 k x0 x1 x10 (wrap64 (Int.fdiv (IntKind.wrap .u64 (wrap64 (x10+x11))) (2 ^ (min (1:Int).toNat 64))))))) else none) else none) else none) else none) else (fQ0.l1 k x0 x10 x1)
noncomputable def fQ0.l1:Nat→List (I_Term)→Int→Int→Option ((List (I_Term)))
 | 0,_,_,_=>none
 | k+1,x0,x10,x13=>if x13<(wrap64 (x10 - 1)) then (if 0≤(wrap64 (x13+1)) then (if (wrap64 (x13+1))<(x0.length:Int) then (if 0≤x13 then (if x13<(x0.length:Int) then (if (wrap64 (x13+1))<((x0.set (x13:Int).toNat ⟨(rd_I_Term x0 (wrap64 (x13+1))).f0,(rd_I_Term x0 (wrap64 (x13+1))).f1,(rd_I_Term x0 (wrap64 (x13+1))).f2⟩).length:Int) then (fQ0.l1 k ((x0.set (x13:Int).toNat ⟨(rd_I_Term x0 (wrap64 (x13+1))).f0,(rd_I_Term x0 (wrap64 (x13+1))).f1,(rd_I_Term x0 (wrap64 (x13+1))).f2⟩).set (wrap64 (x13+1):Int).toNat ⟨(rd_I_Term x0 x13).f0,(rd_I_Term x0 x13).f1,(rd_I_Term x0 x13).f2⟩) x10 (wrap64 (x13+1))) else none) else none) else none) else none) else none) else (some x0)
noncomputable def fQ0.l2:Nat→List (I_Term)→Int→Int→Int→Option ((List (I_Term)))
 | 0,_,_,_,_=>none
 | k+1,x0,x2,x14,x15=>if x14<x15 then (if 0≤x2 then (if x2<(x0.length:Int) then (if 0≤(wrap64 (Int.fdiv (IntKind.wrap .u64 (wrap64 (x14+x15))) (2 ^ (min (1:Int).toNat 64)))) then (if (wrap64 (Int.fdiv (IntKind.wrap .u64 (wrap64 (x14+x15))) (2 ^ (min (1:Int).toNat 64))))<(x0.length:Int) then ((fQ19.f k ((rd_I_Term x0 x2).f0) ((rd_I_Term x0 x2).f1) ((rd_I_Term x0 x2).f2) ((rd_I_Term x0 (wrap64 (Int.fdiv (IntKind.wrap .u64 (wrap64 (x14+x15))) (2 ^ (min (1:Int).toNat 64))))).f0) ((rd_I_Term x0 (wrap64 (Int.fdiv (IntKind.wrap .u64 (wrap64 (x14+x15))) (2 ^ (min (1:Int).toNat 64))))).f1) ((rd_I_Term x0 (wrap64 (Int.fdiv (IntKind.wrap .u64 (wrap64 (x14+x15))) (2 ^ (min (1:Int).toNat 64))))).f2)).bind fun t2=>(if t2<0 then (fQ0.l2 k x0 x2 x14 (wrap64 (Int.fdiv (IntKind.wrap .u64 (wrap64 (x14+x15))) (2 ^ (min (1:Int).toNat 64))))) else (fQ0.l2 k x0 x2 (wrap64 ((wrap64 (Int.fdiv (IntKind.wrap .u64 (wrap64 (x14+x15))) (2 ^ (min (1:Int).toNat 64))))+1)) x15))) else none) else none) else none) else none) else (fQ0.l3 k x0 x14 x2)
noncomputable def fQ0.l3:Nat→List (I_Term)→Int→Int→Option ((List (I_Term)))
 | 0,_,_,_=>none
 | k+1,x0,x14,x17=>if x17>x14 then (if 0≤(wrap64 (x17 - 1)) then (if (wrap64 (x17 - 1))<(x0.length:Int) then (if 0≤x17 then (if x17<(x0.length:Int) then (if (wrap64 (x17 - 1))<((x0.set (x17:Int).toNat ⟨(rd_I_Term x0 (wrap64 (x17 - 1))).f0,(rd_I_Term x0 (wrap64 (x17 - 1))).f1,(rd_I_Term x0 (wrap64 (x17 - 1))).f2⟩).length:Int) then (fQ0.l3 k ((x0.set (x17:Int).toNat ⟨(rd_I_Term x0 (wrap64 (x17 - 1))).f0,(rd_I_Term x0 (wrap64 (x17 - 1))).f1,(rd_I_Term x0 (wrap64 (x17 - 1))).f2⟩).set (wrap64 (x17 - 1):Int).toNat ⟨(rd_I_Term x0 x17).f0,(rd_I_Term x0 x17).f1,(rd_I_Term x0 x17).f2⟩) x14 (wrap64 (x17 - 1))) else none) else none) else none) else none) else none) else (some x0)
noncomputable def fQ0.l4:Nat→List (I_Term)→Int→Int→Int→Int→Int→Int→Int→Int→Option ((List (I_Term)))
 | 0,_,_,_,_,_,_,_,_,_=>none
 | k+1,x0,x1,x2,x3,x18,x19,x20,x21,x22=>if x20<x21 then (if 0≤(wrap64 (x22 - (wrap64 (Int.fdiv (IntKind.wrap .u64 (wrap64 (x20+x21))) (2 ^ (min (1:Int).toNat 64)))))) then (if (wrap64 (x22 - (wrap64 (Int.fdiv (IntKind.wrap .u64 (wrap64 (x20+x21))) (2 ^ (min (1:Int).toNat 64))))))<(x0.length:Int) then (if 0≤(wrap64 (Int.fdiv (IntKind.wrap .u64 (wrap64 (x20+x21))) (2 ^ (min (1:Int).toNat 64)))) then (if (wrap64 (Int.fdiv (IntKind.wrap .u64 (wrap64 (x20+x21))) (2 ^ (min (1:Int).toNat 64))))<(x0.length:Int) then ((fQ19.f k ((rd_I_Term x0 (wrap64 (x22 - (wrap64 (Int.fdiv (IntKind.wrap .u64 (wrap64 (x20+x21))) (2 ^ (min (1:Int).toNat 64))))))).f0) ((rd_I_Term x0 (wrap64 (x22 - (wrap64 (Int.fdiv (IntKind.wrap .u64 (wrap64 (x20+x21))) (2 ^ (min (1:Int).toNat 64))))))).f1) ((rd_I_Term x0 (wrap64 (x22 - (wrap64 (Int.fdiv (IntKind.wrap .u64 (wrap64 (x20+x21))) (2 ^ (min (1:Int).toNat 64))))))).f2) ((rd_I_Term x0 (wrap64 (Int.fdiv (IntKind.wrap .u64 (wrap64 (x20+x21))) (2 ^ (min (1:Int).toNat 64))))).f0) ((rd_I_Term x0 (wrap64 (Int.fdiv (IntKind.wrap .u64 (wrap64 (x20+x21))) (2 ^ (min (1:Int).toNat 64))))).f1) ((rd_I_Term x0 (wrap64 (Int.fdiv (IntKind.wrap .u64 (wrap64 (x20+x21))) (2 ^ (min (1:Int).toNat 64))))).f2)).bind fun t3=>(if t3<0 then (fQ0.l4 k x0 x1 x2 x3 x18 x19 x20 (wrap64 (Int.fdiv (IntKind.wrap .u64 (wrap64 (x20+x21))) (2 ^ (min (1:Int).toNat 64)))) x22) else (fQ0.l4 k x0 x1 x2 x3 x18 x19 (wrap64 ((wrap64 (Int.fdiv (IntKind.wrap .u64 (wrap64 (x20+x21))) (2 ^ (min (1:Int).toNat 64))))+1)) x21 x22))) else none) else none) else none) else none) else (if x20<x2 then (if x2<(wrap64 (x19 - x20)) then ((fQ3.f k x0 x20 x2 (wrap64 (x19 - x20))).bind fun t4=>(fQ0.j0 k t4 x1 x3 x18 x20 (wrap64 (x19 - x20)))) else (fQ0.j0 k x0 x1 x3 x18 x20 (wrap64 (x19 - x20)))) else (fQ0.j0 k x0 x1 x3 x18 x20 (wrap64 (x19 - x20))))
noncomputable def fQ0.j0:Nat→List (I_Term)→Int→Int→Int→Int→Int→Option ((List (I_Term)))
 | 0,_,_,_,_,_,_=>none
 | k+1,x0,x1,x3,x18,x20,x24=>if x1<x20 then (if x20<x18 then ((fQ0.f k x0 x1 x20 x18).bind fun t5=>(fQ0.j1 k t5 x3 x18 x24)) else (fQ0.j1 k x0 x3 x18 x24)) else (fQ0.j1 k x0 x3 x18 x24)
noncomputable def fQ0.j1:Nat→List (I_Term)→Int→Int→Int→Option ((List (I_Term)))
 | 0,_,_,_,_=>none
 | k+1,x0,x3,x18,x24=>if x18<x24 then (if x24<x3 then ((fQ0.f k x0 x18 x24 x3).bind fun t6=>(some t6)) else (some x0)) else (some x0)
noncomputable def fQ0.f:Nat→List (I_Term)→Int→Int→Int→Option ((List (I_Term)))
 | 0,_,_,_,_=>none
 | k+1,l0,a1,a2,a3=>if (wrap64 (a2 - a1))=1 then (fQ0.l0 k l0 a1 a2 a3) else (if (wrap64 (a3 - a2))=1 then (fQ0.l2 k l0 a2 a1 a2) else (if a2>(wrap64 (Int.fdiv (IntKind.wrap .u64 (wrap64 (a1+a3))) (2 ^ (min (1:Int).toNat 64)))) then (fQ0.l4 k l0 a1 a2 a3 (wrap64 (Int.fdiv (IntKind.wrap .u64 (wrap64 (a1+a3))) (2 ^ (min (1:Int).toNat 64)))) (wrap64 ((wrap64 (Int.fdiv (IntKind.wrap .u64 (wrap64 (a1+a3))) (2 ^ (min (1:Int).toNat 64))))+a2)) (wrap64 ((wrap64 ((wrap64 (Int.fdiv (IntKind.wrap .u64 (wrap64 (a1+a3))) (2 ^ (min (1:Int).toNat 64))))+a2)) - a3)) (wrap64 (Int.fdiv (IntKind.wrap .u64 (wrap64 (a1+a3))) (2 ^ (min (1:Int).toNat 64)))) (wrap64 ((wrap64 ((wrap64 (Int.fdiv (IntKind.wrap .u64 (wrap64 (a1+a3))) (2 ^ (min (1:Int).toNat 64))))+a2)) - 1))) else (fQ0.l4 k l0 a1 a2 a3 (wrap64 (Int.fdiv (IntKind.wrap .u64 (wrap64 (a1+a3))) (2 ^ (min (1:Int).toNat 64)))) (wrap64 ((wrap64 (Int.fdiv (IntKind.wrap .u64 (wrap64 (a1+a3))) (2 ^ (min (1:Int).toNat 64))))+a2)) a1 a2 (wrap64 ((wrap64 ((wrap64 (Int.fdiv (IntKind.wrap .u64 (wrap64 (a1+a3))) (2 ^ (min (1:Int).toNat 64))))+a2)) - 1)))))
end
noncomputable def fQ0.pin:Cut:=⟨[],[],[(0,.own 2147483648),(1,.one),(2,.one),(3,.one),(4,.clo 163 [])],[],[(2147483648,.st 3)],[.int .i64,.int .i64,.int .i64,.lst (.st 3)]⟩
noncomputable def fQ0.pout:Cut:=⟨[],[],[],[],[(2147483648,.st 3)],[.lst (.st 3)]⟩
noncomputable def fQ0.ent (k:Nat):Ent2 TT:=⟨280,5,fQ0.pin,fQ0.pout,Try.f280.results.toList,fun x=>fQ0.f k x.2.2.2 x.1 x.2.1 x.2.2.1⟩
noncomputable def fQ0.l0.c:Cut:=⟨[],[],[(0,.own 2147483648),(1,.one),(4,.clo 163 []),(10,.one),(11,.one)],[],[(2147483648,.st 3)],[.int .i64,.int .i64,.int .i64,.lst (.st 3)]⟩
noncomputable def fQ0.l1.c:Cut:=⟨[],[],[(0,.own 2147483648),(10,.one),(13,.one)],[],[(2147483648,.st 3)],[.int .i64,.int .i64,.lst (.st 3)]⟩
noncomputable def fQ0.l2.c:Cut:=⟨[],[],[(0,.own 2147483648),(2,.one),(4,.clo 163 []),(14,.one),(15,.one)],[],[(2147483648,.st 3)],[.int .i64,.int .i64,.int .i64,.lst (.st 3)]⟩
noncomputable def fQ0.l3.c:Cut:=⟨[],[],[(0,.own 2147483648),(14,.one),(17,.one)],[],[(2147483648,.st 3)],[.int .i64,.int .i64,.lst (.st 3)]⟩
noncomputable def fQ0.l4.c:Cut:=⟨[],[],[(0,.own 2147483648),(1,.one),(2,.one),(3,.one),(4,.clo 163 []),(18,.one),(19,.one),(20,.one),(21,.one),(22,.one)],[],[(2147483648,.st 3)],[.int .i64,.int .i64,.int .i64,.int .i64,.int .i64,.int .i64,.int .i64,.int .i64,.lst (.st 3)]⟩
noncomputable def fQ0.j0.c:Cut:=⟨[],[],[(0,.own 2147483648),(1,.one),(3,.one),(4,.clo 163 []),(18,.one),(20,.one),(24,.one)],[],[(2147483648,.st 3)],[.int .i64,.int .i64,.int .i64,.int .i64,.int .i64,.lst (.st 3)]⟩
noncomputable def fQ0.j1.c:Cut:=⟨[],[],[(0,.own 2147483648),(3,.one),(4,.clo 163 []),(18,.one),(24,.one)],[],[(2147483648,.st 3)],[.int .i64,.int .i64,.int .i64,.lst (.st 3)]⟩
@[reducible] noncomputable def fQ0.us:List (CutU TT (TupT ST fQ0.pout.es)):=[⟨3,fQ0.l0.c,fun k x=>fQ0.l0 k x.2.2.2 x.1 x.2.1 x.2.2.1⟩,⟨9,fQ0.l1.c,fun k x=>fQ0.l1 k x.2.2 x.1 x.2.1⟩,⟨15,fQ0.l2.c,fun k x=>fQ0.l2 k x.2.2.2 x.1 x.2.1 x.2.2.1⟩,⟨21,fQ0.l3.c,fun k x=>fQ0.l3 k x.2.2 x.1 x.2.1⟩,⟨33,fQ0.l4.c,fun k x=>fQ0.l4 k x.2.2.2.2.2.2.2.2 x.1 x.2.1 x.2.2.1 x.2.2.2.1 x.2.2.2.2.1 x.2.2.2.2.2.1 x.2.2.2.2.2.2.1 x.2.2.2.2.2.2.2.1⟩,⟨41,fQ0.j0.c,fun k x=>fQ0.j0 k x.2.2.2.2.2 x.1 x.2.1 x.2.2.1 x.2.2.2.1 x.2.2.2.2.1⟩,⟨43,fQ0.j1.c,fun k x=>fQ0.j1 k x.2.2.2 x.1 x.2.1 x.2.2.1⟩]
noncomputable def fQ0.ents (k:Nat):Ents TT:=⟨[fQ19.ent k],[fQ3.ent k,fQ0.ent k],[]⟩
noncomputable def fQ0.l0.raw (k:Nat) (x0:List (I_Term)) (x1:Int) (x10:Int) (x11:Int):Option ((List (I_Term))):=if x10<x11 then (if (1:Int)<0 then none else (if 0≤(wr .i64 (Int.fdiv (wr .u64 (wr .i64 (x10+x11))) (2 ^ (min (1:Int).toNat 64)))) then (if (wr .i64 (Int.fdiv (wr .u64 (wr .i64 (x10+x11))) (2 ^ (min (1:Int).toNat 64))))<(x0.length:Int) then (if 0≤x1 then (if x1<(x0.length:Int) then ((fQ19.f k ((rd_I_Term x0 (wr .i64 (Int.fdiv (wr .u64 (wr .i64 (x10+x11))) (2 ^ (min (1:Int).toNat 64))))).f0) ((rd_I_Term x0 (wr .i64 (Int.fdiv (wr .u64 (wr .i64 (x10+x11))) (2 ^ (min (1:Int).toNat 64))))).f1) ((rd_I_Term x0 (wr .i64 (Int.fdiv (wr .u64 (wr .i64 (x10+x11))) (2 ^ (min (1:Int).toNat 64))))).f2) ((rd_I_Term x0 x1).f0) ((rd_I_Term x0 x1).f1) ((rd_I_Term x0 x1).f2)).bind fun t1=>(if t1<0 then (fQ0.l0 k x0 x1 (wr .i64 ((wr .i64 (Int.fdiv (wr .u64 (wr .i64 (x10+x11))) (2 ^ (min (1:Int).toNat 64))))+1)) x11) else (fQ0.l0 k x0 x1 x10 (wr .i64 (Int.fdiv (wr .u64 (wr .i64 (x10+x11))) (2 ^ (min (1:Int).toNat 64))))))) else none) else none) else none) else none)) else (fQ0.l1 k x0 x10 x1)
theorem fQ0.l0.clean (k:Nat) (x0:List (I_Term)) (x1:Int) (x10:Int) (x11:Int):fQ0.l0.raw k x0 x1 x10 x11=fQ0.l0 (k+1) x0 x1 x10 x11:=by
 rw [fQ0.l0.raw,fQ0.l0]
 simp only [wr_i64,wr_eq .u64]
 exact ite_congr rfl (fun h0=>if_neg (by decide)) (fun h0=>rfl)
theorem fQ0.l0.chk (k:Nat) (x:TupT ST [.int .i64,.int .i64,.int .i64,.lst (.st 3)]):runU TT (calF [] (fQ0.ents k)) (jmps fQ0.us k) (finC fQ0.pout Try.f280.results.toList) Try.f280 (some 3) (canonC fQ0.l0.c x)=fQ0.l0 (k+1) x.2.2.2 x.1 x.2.1 x.2.2.1:=Eq.trans (show _=fQ0.l0.raw k x.2.2.2 x.1 x.2.1 x.2.2.1 by kernel_rfl) (fQ0.l0.clean k x.2.2.2 x.1 x.2.1 x.2.2.1)
noncomputable def fQ0.l1.raw (k:Nat) (x0:List (I_Term)) (x10:Int) (x13:Int):Option ((List (I_Term))):=if x13<(wr .i64 (x10 - 1)) then (if 0≤(wr .i64 (x13+1)) then (if (wr .i64 (x13+1))<(x0.length:Int) then (if 0≤x13 then (if x13<(x0.length:Int) then (if 0≤x13 then (if x13<(x0.length:Int) then (if 0≤(wr .i64 (x13+1)) then (if (wr .i64 (x13+1))<((x0.set (x13:Int).toNat ⟨(rd_I_Term x0 (wr .i64 (x13+1))).f0,(rd_I_Term x0 (wr .i64 (x13+1))).f1,(rd_I_Term x0 (wr .i64 (x13+1))).f2⟩).length:Int) then (fQ0.l1 k ((x0.set (x13:Int).toNat ⟨(rd_I_Term x0 (wr .i64 (x13+1))).f0,(rd_I_Term x0 (wr .i64 (x13+1))).f1,(rd_I_Term x0 (wr .i64 (x13+1))).f2⟩).set (wr .i64 (x13+1):Int).toNat ⟨(rd_I_Term x0 x13).f0,(rd_I_Term x0 x13).f1,(rd_I_Term x0 x13).f2⟩) x10 (wr .i64 (x13+1))) else none) else none) else none) else none) else none) else none) else none) else none) else (some x0)
theorem fQ0.l1.clean (k:Nat) (x0:List (I_Term)) (x10:Int) (x13:Int):fQ0.l1.raw k x0 x10 x13=fQ0.l1 (k+1) x0 x10 x13:=by
 rw [fQ0.l1.raw,fQ0.l1]
 simp only [wr_i64]
 exact ite_congr rfl (fun h0=>ite_congr rfl (fun h1=>ite_congr rfl (fun h2=>ite_congr rfl (fun h3=>ite_congr rfl (fun h4=>Eq.trans (if_pos h3) (Eq.trans (if_pos h4) (if_pos h1))) (fun h4=>rfl)) (fun h3=>rfl)) (fun h2=>rfl)) (fun h1=>rfl)) (fun h0=>rfl)
theorem fQ0.l1.chk (k:Nat) (x:TupT ST [.int .i64,.int .i64,.lst (.st 3)]):runU TT (calF [] (fQ0.ents k)) (jmps fQ0.us k) (finC fQ0.pout Try.f280.results.toList) Try.f280 (some 9) (canonC fQ0.l1.c x)=fQ0.l1 (k+1) x.2.2 x.1 x.2.1:=Eq.trans (show _=fQ0.l1.raw k x.2.2 x.1 x.2.1 by kernel_rfl) (fQ0.l1.clean k x.2.2 x.1 x.2.1)
noncomputable def fQ0.l2.raw (k:Nat) (x0:List (I_Term)) (x2:Int) (x14:Int) (x15:Int):Option ((List (I_Term))):=if x14<x15 then (if (1:Int)<0 then none else (if 0≤x2 then (if x2<(x0.length:Int) then (if 0≤(wr .i64 (Int.fdiv (wr .u64 (wr .i64 (x14+x15))) (2 ^ (min (1:Int).toNat 64)))) then (if (wr .i64 (Int.fdiv (wr .u64 (wr .i64 (x14+x15))) (2 ^ (min (1:Int).toNat 64))))<(x0.length:Int) then ((fQ19.f k ((rd_I_Term x0 x2).f0) ((rd_I_Term x0 x2).f1) ((rd_I_Term x0 x2).f2) ((rd_I_Term x0 (wr .i64 (Int.fdiv (wr .u64 (wr .i64 (x14+x15))) (2 ^ (min (1:Int).toNat 64))))).f0) ((rd_I_Term x0 (wr .i64 (Int.fdiv (wr .u64 (wr .i64 (x14+x15))) (2 ^ (min (1:Int).toNat 64))))).f1) ((rd_I_Term x0 (wr .i64 (Int.fdiv (wr .u64 (wr .i64 (x14+x15))) (2 ^ (min (1:Int).toNat 64))))).f2)).bind fun t2=>(if ¬(t2<0) then (fQ0.l2 k x0 x2 (wr .i64 ((wr .i64 (Int.fdiv (wr .u64 (wr .i64 (x14+x15))) (2 ^ (min (1:Int).toNat 64))))+1)) x15) else (fQ0.l2 k x0 x2 x14 (wr .i64 (Int.fdiv (wr .u64 (wr .i64 (x14+x15))) (2 ^ (min (1:Int).toNat 64))))))) else none) else none) else none) else none)) else (fQ0.l3 k x0 x14 x2)
theorem fQ0.l2.clean (k:Nat) (x0:List (I_Term)) (x2:Int) (x14:Int) (x15:Int):fQ0.l2.raw k x0 x2 x14 x15=fQ0.l2 (k+1) x0 x2 x14 x15:=by
 rw [fQ0.l2.raw,fQ0.l2]
 simp only [wr_i64,wr_eq .u64]
 exact ite_congr rfl (fun h0=>Eq.trans (if_neg (by decide)) (ite_congr rfl (fun h1=>ite_congr rfl (fun h2=>ite_congr rfl (fun h3=>ite_congr rfl (fun h4=>bind_cg fun t2=>(ite_ng _ _)) (fun h4=>rfl)) (fun h3=>rfl)) (fun h2=>rfl)) (fun h1=>rfl))) (fun h0=>rfl)
theorem fQ0.l2.chk (k:Nat) (x:TupT ST [.int .i64,.int .i64,.int .i64,.lst (.st 3)]):runU TT (calF [] (fQ0.ents k)) (jmps fQ0.us k) (finC fQ0.pout Try.f280.results.toList) Try.f280 (some 15) (canonC fQ0.l2.c x)=fQ0.l2 (k+1) x.2.2.2 x.1 x.2.1 x.2.2.1:=Eq.trans (show _=fQ0.l2.raw k x.2.2.2 x.1 x.2.1 x.2.2.1 by kernel_rfl) (fQ0.l2.clean k x.2.2.2 x.1 x.2.1 x.2.2.1)
noncomputable def fQ0.l3.raw (k:Nat) (x0:List (I_Term)) (x14:Int) (x17:Int):Option ((List (I_Term))):=if x17>x14 then (if 0≤(wr .i64 (x17 - 1)) then (if (wr .i64 (x17 - 1))<(x0.length:Int) then (if 0≤x17 then (if x17<(x0.length:Int) then (if 0≤x17 then (if x17<(x0.length:Int) then (if 0≤(wr .i64 (x17 - 1)) then (if (wr .i64 (x17 - 1))<((x0.set (x17:Int).toNat ⟨(rd_I_Term x0 (wr .i64 (x17 - 1))).f0,(rd_I_Term x0 (wr .i64 (x17 - 1))).f1,(rd_I_Term x0 (wr .i64 (x17 - 1))).f2⟩).length:Int) then (fQ0.l3 k ((x0.set (x17:Int).toNat ⟨(rd_I_Term x0 (wr .i64 (x17 - 1))).f0,(rd_I_Term x0 (wr .i64 (x17 - 1))).f1,(rd_I_Term x0 (wr .i64 (x17 - 1))).f2⟩).set (wr .i64 (x17 - 1):Int).toNat ⟨(rd_I_Term x0 x17).f0,(rd_I_Term x0 x17).f1,(rd_I_Term x0 x17).f2⟩) x14 (wr .i64 (x17 - 1))) else none) else none) else none) else none) else none) else none) else none) else none) else (some x0)
theorem fQ0.l3.clean (k:Nat) (x0:List (I_Term)) (x14:Int) (x17:Int):fQ0.l3.raw k x0 x14 x17=fQ0.l3 (k+1) x0 x14 x17:=by
 rw [fQ0.l3.raw,fQ0.l3]
 simp only [wr_i64]
 exact ite_congr rfl (fun h0=>ite_congr rfl (fun h1=>ite_congr rfl (fun h2=>ite_congr rfl (fun h3=>ite_congr rfl (fun h4=>Eq.trans (if_pos h3) (Eq.trans (if_pos h4) (if_pos h1))) (fun h4=>rfl)) (fun h3=>rfl)) (fun h2=>rfl)) (fun h1=>rfl)) (fun h0=>rfl)
theorem fQ0.l3.chk (k:Nat) (x:TupT ST [.int .i64,.int .i64,.lst (.st 3)]):runU TT (calF [] (fQ0.ents k)) (jmps fQ0.us k) (finC fQ0.pout Try.f280.results.toList) Try.f280 (some 21) (canonC fQ0.l3.c x)=fQ0.l3 (k+1) x.2.2 x.1 x.2.1:=Eq.trans (show _=fQ0.l3.raw k x.2.2 x.1 x.2.1 by kernel_rfl) (fQ0.l3.clean k x.2.2 x.1 x.2.1)
noncomputable def fQ0.l4.raw (k:Nat) (x0:List (I_Term)) (x1:Int) (x2:Int) (x3:Int) (x18:Int) (x19:Int) (x20:Int) (x21:Int) (x22:Int):Option ((List (I_Term))):=if x20<x21 then (if (1:Int)<0 then none else (if 0≤(wr .i64 (x22 - (wr .i64 (Int.fdiv (wr .u64 (wr .i64 (x20+x21))) (2 ^ (min (1:Int).toNat 64)))))) then (if (wr .i64 (x22 - (wr .i64 (Int.fdiv (wr .u64 (wr .i64 (x20+x21))) (2 ^ (min (1:Int).toNat 64))))))<(x0.length:Int) then (if 0≤(wr .i64 (Int.fdiv (wr .u64 (wr .i64 (x20+x21))) (2 ^ (min (1:Int).toNat 64)))) then (if (wr .i64 (Int.fdiv (wr .u64 (wr .i64 (x20+x21))) (2 ^ (min (1:Int).toNat 64))))<(x0.length:Int) then ((fQ19.f k ((rd_I_Term x0 (wr .i64 (x22 - (wr .i64 (Int.fdiv (wr .u64 (wr .i64 (x20+x21))) (2 ^ (min (1:Int).toNat 64))))))).f0) ((rd_I_Term x0 (wr .i64 (x22 - (wr .i64 (Int.fdiv (wr .u64 (wr .i64 (x20+x21))) (2 ^ (min (1:Int).toNat 64))))))).f1) ((rd_I_Term x0 (wr .i64 (x22 - (wr .i64 (Int.fdiv (wr .u64 (wr .i64 (x20+x21))) (2 ^ (min (1:Int).toNat 64))))))).f2) ((rd_I_Term x0 (wr .i64 (Int.fdiv (wr .u64 (wr .i64 (x20+x21))) (2 ^ (min (1:Int).toNat 64))))).f0) ((rd_I_Term x0 (wr .i64 (Int.fdiv (wr .u64 (wr .i64 (x20+x21))) (2 ^ (min (1:Int).toNat 64))))).f1) ((rd_I_Term x0 (wr .i64 (Int.fdiv (wr .u64 (wr .i64 (x20+x21))) (2 ^ (min (1:Int).toNat 64))))).f2)).bind fun t3=>(if ¬(t3<0) then (fQ0.l4 k x0 x1 x2 x3 x18 x19 (wr .i64 ((wr .i64 (Int.fdiv (wr .u64 (wr .i64 (x20+x21))) (2 ^ (min (1:Int).toNat 64))))+1)) x21 x22) else (fQ0.l4 k x0 x1 x2 x3 x18 x19 x20 (wr .i64 (Int.fdiv (wr .u64 (wr .i64 (x20+x21))) (2 ^ (min (1:Int).toNat 64)))) x22))) else none) else none) else none) else none)) else (if x20<x2 then (if x2<(wr .i64 (x19 - x20)) then ((fQ3.f k x0 x20 x2 (wr .i64 (x19 - x20))).bind fun t4=>(fQ0.j0 k t4 x1 x3 x18 x20 (wr .i64 (x19 - x20)))) else (fQ0.j0 k x0 x1 x3 x18 x20 (wr .i64 (x19 - x20)))) else (fQ0.j0 k x0 x1 x3 x18 x20 (wr .i64 (x19 - x20))))
theorem fQ0.l4.clean (k:Nat) (x0:List (I_Term)) (x1:Int) (x2:Int) (x3:Int) (x18:Int) (x19:Int) (x20:Int) (x21:Int) (x22:Int):fQ0.l4.raw k x0 x1 x2 x3 x18 x19 x20 x21 x22=fQ0.l4 (k+1) x0 x1 x2 x3 x18 x19 x20 x21 x22:=by
 rw [fQ0.l4.raw,fQ0.l4]
 simp only [wr_i64,wr_eq .u64]
 exact ite_congr rfl (fun h0=>Eq.trans (if_neg (by decide)) (ite_congr rfl (fun h1=>ite_congr rfl (fun h2=>ite_congr rfl (fun h3=>ite_congr rfl (fun h4=>bind_cg fun t3=>(ite_ng _ _)) (fun h4=>rfl)) (fun h3=>rfl)) (fun h2=>rfl)) (fun h1=>rfl))) (fun h0=>rfl)
theorem fQ0.l4.chk (k:Nat) (x:TupT ST [.int .i64,.int .i64,.int .i64,.int .i64,.int .i64,.int .i64,.int .i64,.int .i64,.lst (.st 3)]):runU TT (calF [] (fQ0.ents k)) (jmps fQ0.us k) (finC fQ0.pout Try.f280.results.toList) Try.f280 (some 33) (canonC fQ0.l4.c x)=fQ0.l4 (k+1) x.2.2.2.2.2.2.2.2 x.1 x.2.1 x.2.2.1 x.2.2.2.1 x.2.2.2.2.1 x.2.2.2.2.2.1 x.2.2.2.2.2.2.1 x.2.2.2.2.2.2.2.1:=Eq.trans (show _=fQ0.l4.raw k x.2.2.2.2.2.2.2.2 x.1 x.2.1 x.2.2.1 x.2.2.2.1 x.2.2.2.2.1 x.2.2.2.2.2.1 x.2.2.2.2.2.2.1 x.2.2.2.2.2.2.2.1 by kernel_rfl) (fQ0.l4.clean k x.2.2.2.2.2.2.2.2 x.1 x.2.1 x.2.2.1 x.2.2.2.1 x.2.2.2.2.1 x.2.2.2.2.2.1 x.2.2.2.2.2.2.1 x.2.2.2.2.2.2.2.1)
theorem fQ0.j0.chk (k:Nat) (x:TupT ST [.int .i64,.int .i64,.int .i64,.int .i64,.int .i64,.lst (.st 3)]):runU TT (calF [] (fQ0.ents k)) (jmps fQ0.us k) (finC fQ0.pout Try.f280.results.toList) Try.f280 (some 41) (canonC fQ0.j0.c x)=fQ0.j0 (k+1) x.2.2.2.2.2 x.1 x.2.1 x.2.2.1 x.2.2.2.1 x.2.2.2.2.1:=by kernel_rfl
theorem fQ0.j1.chk (k:Nat) (x:TupT ST [.int .i64,.int .i64,.int .i64,.lst (.st 3)]):runU TT (calF [] (fQ0.ents k)) (jmps fQ0.us k) (finC fQ0.pout Try.f280.results.toList) Try.f280 (some 43) (canonC fQ0.j1.c x)=fQ0.j1 (k+1) x.2.2.2 x.1 x.2.1 x.2.2.1:=by kernel_rfl
noncomputable def fQ0.raw (k:Nat) (l0:List (I_Term)) (a1:Int) (a2:Int) (a3:Int):Option ((List (I_Term))):=if (wr .i64 (a2 - a1))=1 then (fQ0.l0 k l0 a1 a2 a3) else (if (wr .i64 (a3 - a2))=1 then (fQ0.l2 k l0 a2 a1 a2) else (if (1:Int)<0 then none else (if a2>(wr .i64 (Int.fdiv (wr .u64 (wr .i64 (a1+a3))) (2 ^ (min (1:Int).toNat 64)))) then (fQ0.l4 k l0 a1 a2 a3 (wr .i64 (Int.fdiv (wr .u64 (wr .i64 (a1+a3))) (2 ^ (min (1:Int).toNat 64)))) (wr .i64 ((wr .i64 (Int.fdiv (wr .u64 (wr .i64 (a1+a3))) (2 ^ (min (1:Int).toNat 64))))+a2)) (wr .i64 ((wr .i64 ((wr .i64 (Int.fdiv (wr .u64 (wr .i64 (a1+a3))) (2 ^ (min (1:Int).toNat 64))))+a2)) - a3)) (wr .i64 (Int.fdiv (wr .u64 (wr .i64 (a1+a3))) (2 ^ (min (1:Int).toNat 64)))) (wr .i64 ((wr .i64 ((wr .i64 (Int.fdiv (wr .u64 (wr .i64 (a1+a3))) (2 ^ (min (1:Int).toNat 64))))+a2)) - 1))) else (fQ0.l4 k l0 a1 a2 a3 (wr .i64 (Int.fdiv (wr .u64 (wr .i64 (a1+a3))) (2 ^ (min (1:Int).toNat 64)))) (wr .i64 ((wr .i64 (Int.fdiv (wr .u64 (wr .i64 (a1+a3))) (2 ^ (min (1:Int).toNat 64))))+a2)) a1 a2 (wr .i64 ((wr .i64 ((wr .i64 (Int.fdiv (wr .u64 (wr .i64 (a1+a3))) (2 ^ (min (1:Int).toNat 64))))+a2)) - 1))))))
theorem fQ0.clean (k:Nat) (l0:List (I_Term)) (a1:Int) (a2:Int) (a3:Int):fQ0.raw k l0 a1 a2 a3=fQ0.f (k+1) l0 a1 a2 a3:=by
 rw [fQ0.raw,fQ0.f]
 simp only [wr_i64,wr_eq .u64]
 exact ite_congr rfl (fun h0=>rfl) (fun h0=>ite_congr rfl (fun h1=>rfl) (fun h1=>if_neg (by decide)))
theorem fQ0.chk (k:Nat) (x:TupT ST fQ0.pin.es):runU TT (calF [] (fQ0.ents k)) (jmps fQ0.us k) (finC fQ0.pout Try.f280.results.toList) Try.f280 none (canonC fQ0.pin x)=fQ0.f (k+1) x.2.2.2 x.1 x.2.1 x.2.2.1:=Eq.trans (show _=fQ0.raw k x.2.2.2 x.1 x.2.1 x.2.2.1 by kernel_rfl) (fQ0.clean k x.2.2.2 x.1 x.2.1 x.2.2.1)
theorem fQ0.grp:∀k:Nat,EachU (EntOk Try.prog TT) []∧EachU (Ent2Ok Try.prog TT) [fQ0.ent k]:=by
 intro k
 induction k using Nat.strongRecOn with
 | ind k ih=>
  exact And.intro True.intro (And.intro (fun_in2 tbl mixed 280 Try.f280 Try.func280 rfl (by kernel_rfl) 5 fQ0.pin fQ0.pout (by kernel_rfl) [] fQ0.ents fQ0.us (And.intro (fun _=>rfl) (And.intro (fun _=>rfl) (And.intro (fun _=>rfl) (And.intro (fun _=>rfl) (And.intro (fun _=>rfl) (And.intro (fun _=>rfl) (And.intro (fun _=>rfl) True.intro))))))) (And.intro fQ0.l0.chk (And.intro fQ0.l1.chk (And.intro fQ0.l2.chk (And.intro fQ0.l3.chk (And.intro fQ0.l4.chk (And.intro fQ0.j0.chk (And.intro fQ0.j1.chk True.intro))))))) (fun k (x:TupT ST fQ0.pin.es)=>fQ0.f k x.2.2.2 x.1 x.2.1 x.2.2.1) (fun _=>rfl) fQ0.chk k (fun j h=>EntsOk.mk (And.intro (fQ19.ok j) True.intro) (And.intro (fQ3.ok j) (And.intro (ih j h).2.1 True.intro)) True.intro)) True.intro)
theorem fQ0.ok (k:Nat):Ent2Ok Try.prog TT (fQ0.ent k):=(fQ0.grp k).2.1
end
end Go.Proofs.Ytejfjfhopapaaaa.PE
