/- A small evaluator over the program's own code, and why it tells the truth (part 1). Written by this claim's session. -/
import Derived.Below
import Derived.Calls
import Derived.ChangeArms
import Derived.DataReads
import Derived.Great.BuildSlice
import Derived.KernelRfl
import Derived.Laws.Append
import Derived.Laws.AppendOwn
import Derived.Laws.Cells
import Derived.Laws.CopyRow
import Derived.Laws.Cover3
import Derived.Laws.Entries
import Derived.Laws.MakeOwn
import Derived.Laws.Sem
import Derived.Laws.Strings
import Derived.Laws.StructEq
import Derived.Laws.Tables
import Derived.Laws.World
import Derived.Lib.AppendZeros
import Derived.Orders
import Derived.ProofKit
import Derived.RowKit
import Derived.Shelf.Spec.SlicesInsert
import Derived.Shelf.Spec.SlicesInsertGrow
import Derived.WalkArith
import Derived.WideShapes
set_option linter.unusedSimpArgs false
namespace Go.Proofs.YtggmgmkhohmfiaaGreat.PE
noncomputable section
set_option linter.unusedVariables false
open Go Go.RowKit
inductive E where
 | int (k:IntKind) | bool | str | lst (e:E) | st (s:Nat)
abbrev Ty:=E
def E.dec:(a b:E)→Decidable (a=b)
 | .int k,.int k'=>if h:k=k' then .isTrue (h▸rfl) else .isFalse (fun e=>h (by injection e))
 | .bool,.bool=>.isTrue rfl
 | .str,.str=>.isTrue rfl
 | .lst a,.lst b=>match E.dec a b with | .isTrue h=>.isTrue (h▸rfl) | .isFalse h=>.isFalse (fun e=>h (by injection e))
 | .st a,.st b=>if h:a=b then .isTrue (h▸rfl) else .isFalse (fun e=>h (by injection e))
 | .int _,.bool=>.isFalse nofun | .int _,.str=>.isFalse nofun | .int _,.lst _=>.isFalse nofun | .int _,.st _=>.isFalse nofun
 | .bool,.int _=>.isFalse nofun | .bool,.str=>.isFalse nofun | .bool,.lst _=>.isFalse nofun | .bool,.st _=>.isFalse nofun
 | .str,.int _=>.isFalse nofun | .str,.bool=>.isFalse nofun | .str,.lst _=>.isFalse nofun | .str,.st _=>.isFalse nofun
 | .lst _,.int _=>.isFalse nofun | .lst _,.bool=>.isFalse nofun | .lst _,.str=>.isFalse nofun | .lst _,.st _=>.isFalse nofun
 | .st _,.int _=>.isFalse nofun | .st _,.bool=>.isFalse nofun | .st _,.str=>.isFalse nofun | .st _,.lst _=>.isFalse nofun
instance:DecidableEq E:=E.dec
@[reducible] def Den (ST:Nat→Type):E→Type
 | .int _=>Int
 | .bool=>Bool
 | .str=>ByteArray
 | .lst e=>List (Den ST e)
 | .st s=>ST s
inductive Dyn (ST:Nat→Type) where
 | int (k:IntKind) (n:Int) | bool (b:Bool) | str (s:ByteArray) | lst (e:E) (xs:List (Den ST e)) | nil
structure Tbl where
 ST:Nat→Type
 zero:(s:Nat)→ST s
 cells:(s:Nat)→ST s→List (Dyn ST)
 mkS:(s:Nat)→List (Dyn ST)→Option (ST s)
 sz:Nat→Nat
 ety:TypeId→Option E
 lay:TypeId→Nat
 fld:TypeId→Nat→Option Nat
 bnd:E→Nat
 plc:TypeId→Nat→Option (Nat×Nat)
 eqs:TypeId→Option (List E)
 arr:TypeId→Bool
 str:E→Bool
inductive FV (T:Tbl):Type 1 where
 | d (x:Dyn T.ST)
 | lit (b:Bool)
 | prp (p:Prop) (i:Decidable p)
 | agg (cs:List (FV T))
 | tup (vs:List (FV T))
 | own (id g:Nat)
 | oel (id g:Nat) (i:Int) (off:Nat)
 | ptr (id g off:Nat)
 | elp (e:E) (xs:List (Den T.ST e)) (i:Int) (off:Nat)
 | clo (f:FuncId) (caps:List (FV T))
 | nil
 | non
inductive Cont (T:Tbl):Type 1 where
 | none | box (cs:List (FV T)) | row (e:E) (xs:List (Den T.ST e)) | frz (e:E) (xs:List (Den T.ST e))
structure Slot (T:Tbl) where
 g:Nat
 c:Cont T
structure St (T:Tbl) where
 f:Nat→FV T
 h:Nat→Slot T
def upd {α:Type _} (f:Nat→α) (i:Nat) (v:α):Nat→α:=fun j=>match Nat.beq j i with | true=>v | false=>f j
variable {T:Tbl} {R:Type}
def dft (T:Tbl):(e:E)→Den T.ST e
 | .int _=>(0:Int) | .bool=>false | .str=>(⟨#[]⟩:ByteArray) | .lst _=>[] | .st s=>T.zero s
def szE (T:Tbl):E→Nat | .st s=>T.sz s | _=>1
def cellsE (T:Tbl):(e:E)→Den T.ST e→List (Dyn T.ST)
 | .int k,n=>[.int k n] | .bool,b=>[.bool b] | .str,s=>[.str s] | .lst e,xs=>[.lst e xs] | .st s,x=>T.cells s x
def toL (ST:Nat→Type) (a b:E) (xs:List (Den ST a)):Option (List (Den ST b)):=
 match E.dec a b with
 | .isTrue h=>some (h▸xs)
 | .isFalse _=>none
def lstD (ST:Nat→Type) (e:E):Dyn ST→Option (List (Den ST e)) | .lst e' xs=>toL ST e' e xs | .nil=>some [] | _=>none
def mkE (T:Tbl):(e:E)→List (Dyn T.ST)→Option (Den T.ST e)
 | .int k,[.int k' n]=>if k=k' then some n else none
 | .bool,[.bool b]=>some b
 | .str,[.str s]=>some s
 | .lst e,[x]=>lstD T.ST e x
 | .st s,l=>T.mkS s l
 | _,_=>none
def zeroF:Dyn T.ST→FV T | .lst _ _=>.nil | .int k n=>.d (.int k n) | .bool b=>.d (.bool b) | .str s=>.d (.str s) | .nil=>.nil
def rdE (T:Tbl) (e:E) (xs:List (Den T.ST e)) (i:Int):Den T.ST e:=xs.getD i.toNat (dft T e)
def Tbl.agg (T:Tbl) (t:TypeId):Option Nat:=match T.lay t with | 0=>none | 1=>none | n+2=>some n
def constV1:Value→FV T
 | .int k n=>.d (.int k n)
 | .bool b=>.lit b
 | .string x=>.d (.str x)
 | .slice none 0 0=>.nil
 | _=>.non
def constV:Value→FV T
 | .agg vs=>.agg (vs.toList.map constV1)
 | v=>constV1 v
def ev (s:St T):Operand→FV T
 | .tmp t=>s.f t
 | .const v=>constV v
 | .func f=>.clo f []
 | _=>.non
def HB:Nat:=1073741824
def HR:Nat:=2147483648
def guardD:Option Tmp→Option Tmp
 | some d=>match Nat.blt d HB with | true=>some d | false=>none
 | none=>none
structure Base where
 w0:World
 S0:E→Nat→Prop
 M0:Nat→Prop
 fx:Nat→Nat
 kx:Nat→Nat
 lx:Nat→Nat
structure Cal (T:Tbl) (R:Type):Type 1 where
 q:FuncId→List (FV T)→(FV T→Option R)→Option R
 two:FuncId→Bool
 rel:FuncId→Bool
 l:FuncId→Nat→List (FV T)→(Nat→Slot T)→(FV T→(Nat→Slot T)→Option R)→Option R
 hv:Nat→Oper→St T→Option ((St T→Option R)→Option R)
 site:Oper→Bool
 nar:Base→Prop
 rg:Nat→List Oper→St T→Option ((St T→Option R)→Option R)
open Classical in
noncomputable def relB {Y R:Type} (P:Y→Prop) (K:Y→Option R):Option R:=if h:∃r,∀y,P y→K y=some r then some h.choose else none
theorem wrE:Nonempty {f:IntKind→Int→Int // ∀k x,f k x=k.wrap x}:=⟨⟨fun k x=>k.wrap x,fun _ _=>rfl⟩⟩
noncomputable def wr (k:IntKind) (x:Int):Int:=(Classical.choice wrE).1 k x
theorem wr_eq (k:IntKind) (x:Int):wr k x=k.wrap x:=(Classical.choice wrE).2 k x
theorem wr_i64 (x:Int):wr .i64 x=wrap64 x:=by rw [wr_eq,IntKind.wrap_i64,wrap64]
theorem wr_u8 (x:Int):wr .u8 x=x % 256:=by rw [wr_eq];simp [IntKind.wrap,IntKind.signed,IntKind.bits]
def dyn1 (h:Nat→Slot T):FV T→Option (Dyn T.ST)
 | .d x=>some x
 | .lit b=>some (.bool b)
 | .prp p i=>some (.bool (@decide p i))
 | .own id g=>match h id with
  | ⟨g',.row e xs⟩=>match Nat.beq g g' with | true=>some (.lst e xs) | false=>none
  | ⟨g',.frz e xs⟩=>match Nat.beq g g' with | true=>some (.lst e xs) | false=>none
  | _=>none
 | .nil=>some .nil
 | _=>none
def dynL (h:Nat→Slot T):List (FV T)→Option (List (Dyn T.ST))
 | []=>some []
 | c::cs=>match dyn1 h c,dynL h cs with | some x,some xs=>some (x::xs) | _,_=>none
def cellsF (h:Nat→Slot T):FV T→Option (List (Dyn T.ST))
 | .agg cs=>dynL h cs
 | v=>match dyn1 h v with | some x=>some [x] | none=>none
def denF (e:E) (h:Nat→Slot T) (v:FV T):Option (Den T.ST e):=match cellsF h v with | some l=>mkE T e l | none=>none
def frz1 (h:Nat→Slot T):FV T→Nat→Slot T
 | .own id g=>match h id with
  | ⟨g',.row e xs⟩=>match Nat.beq g g' with | true=>upd h id ⟨g',.frz e xs⟩ | false=>h
  | _=>h
 | _=>h
def frzL (h:Nat→Slot T):List (FV T)→Nat→Slot T
 | []=>h
 | c::cs=>frzL (frz1 h c) cs
def frzV (h:Nat→Slot T):FV T→Nat→Slot T
 | .agg cs=>frzL h cs
 | v=>frz1 h v
def cellOk:FV T→Bool
 | .agg _ | .tup _ | .non=>false
 | _=>true
def boxL:FV T→Option (List (FV T))
 | .agg cs=>match cs.all cellOk with | true=>some cs | false=>none
 | v=>match cellOk v with | true=>some [v] | false=>none
def getN (cs:List (FV T)) (i:Nat):Option (FV T):=cs[i]?
def loadF (T:Tbl) (t:TypeId) (cs:List (FV T)) (off:Nat):Option (FV T):=
 match T.lay t with
 | 0=>none
 | 1=>cs[off]?
 | n+2=>match Nat.ble (off+n) cs.length with | true=>some (.agg ((cs.drop off).take n)) | false=>none
def setL {α:Type _} (cs:List α):Nat→List α→List α
 | _,[]=>cs
 | i,v::vs=>setL (cs.set i v) (i+1) vs
def pure1 (h:Nat→Slot T):FV T→Option (FV T)
 | .d x=>some (.d x)
 | .lit b=>some (.d (.bool b))
 | .prp p i=>some (.d (.bool (@decide p i)))
 | .own id g=>match dyn1 h (.own id g) with | some x=>some (.d x) | none=>none
 | .nil=>some .nil
 | _=>none
def pureL (h:Nat→Slot T):List (FV T)→Option (List (FV T))
 | []=>some []
 | c::cs=>match pure1 h c,pureL h cs with | some x,some xs=>some (x::xs) | _,_=>none
def pureF (h:Nat→Slot T):FV T→Option (FV T)
 | .agg cs=>match pureL h cs with | some l=>some (.agg l) | none=>none
 | v=>pure1 h v
def pureFs (h:Nat→Slot T):List (FV T)→Option (List (FV T))
 | []=>some []
 | c::cs=>match pureF h c,pureFs h cs with | some x,some xs=>some (x::xs) | _,_=>none
def frzFs (h:Nat→Slot T):List (FV T)→Nat→Slot T
 | []=>h
 | c::cs=>frzFs (frzV h c) cs
def plain1:FV T→Bool
 | .d (.lst _ _)=>false
 | .d _=>true
 | .lit _=>true
 | .prp _ _=>true
 | .agg cs=>go cs
 | .tup cs=>go cs
 | _=>false
where go:List (FV T)→Bool
 | []=>true
 | c::cs=>match plain1 c with | true=>go cs | false=>false
def binI (op:BinOp) (k:IntKind) (x y:Int) (K:FV T→Option R):Option R:=
 match op with
 | .add=>K (.d (.int k (wr k (x+y))))
 | .sub=>K (.d (.int k (wr k (x - y))))
 | .mul=>K (.d (.int k (wr k (x*y))))
 | .lss=>K (.prp (x<y) inferInstance)
 | .leq=>K (.prp (x≤y) inferInstance)
 | .gtr=>K (.prp (x>y) inferInstance)
 | .geq=>K (.prp (x≥y) inferInstance)
 | .eql=>K (.prp (x=y) inferInstance)
 | .neq=>K (.prp (¬x=y) inferInstance)
 | .quo=>if y=0 then none else K (.d (.int k (wr k (x.tdiv y))))
 | .rem=>if y=0 then none else K (.d (.int k (x.tmod y)))
 | .and=>K (.d (.int k (bits .and k x y)))
 | .or=>K (.d (.int k (bits .or k x y)))
 | .xor=>K (.d (.int k (bits .xor k x y)))
 | .andNot=>K (.d (.int k (bits .andNot k x y)))
 | .shl=>if y<0 then none else K (.d (.int k (wr k (x*2 ^ (min y.toNat k.bits)))))
 | .shr=>if y<0 then none else K (.d (.int k (x.fdiv (2 ^ (min y.toNat k.bits)))))
end
end Go.Proofs.YtggmgmkhohmfiaaGreat.PE
namespace Go.Proofs.YtggmgmkhohmfiaaGreat.PE
noncomputable section
set_option linter.unusedVariables false
open Go Go.RowKit
variable {T:Tbl} {R:Type}
def hasOwn:List (FV T)→Bool
  | []=>false
  | .own _ _::_=>true
  | .agg cs::r=>match cs.any (fun c=>match c with | .own _ _=>true | _=>false) with | true=>true | false=>hasOwn r
  | _::r=>hasOwn r
def lstF (h:Nat→Slot T) (v:FV T):Option (Dyn T.ST):=match v with
  | .d (.lst e xs)=>some (.lst e xs)
  | .own id g=>dyn1 h (.own id g)
  | _=>none
def idxK (h:Nat→Slot T) (sz:Nat) (x:FV T) (i:Int) (K:FV T→Option R):Option R:=match x with
  | .d (.lst e xs)=>match Nat.beq sz (szE T e) with
    | true=>if 0≤i then (if i<(xs.length:Int) then K (.elp e xs i 0) else none) else none
    | false=>none
  | .own id g=>match h id with
    | ⟨g',.row e xs⟩=>match Nat.beq g g',Nat.beq sz (szE T e) with
      | true,true=>if 0≤i then (if i<(xs.length:Int) then K (.oel id g i 0) else none) else none
      | _,_=>none
    | ⟨g',.frz e xs⟩=>match Nat.beq g g',Nat.beq sz (szE T e) with
      | true,true=>if 0≤i then (if i<(xs.length:Int) then K (.elp e xs i 0) else none) else none
      | _,_=>none
    | _=>none
  | _=>none
def atF (h:Nat→Slot T):FV T→Option (List (FV T)×Nat)
  | .ptr id g off=>match h id with
    | ⟨g',.box cs⟩=>match Nat.beq g g' with | true=>some (cs,off) | false=>none
    | _=>none
  | .elp e xs i off=>some ((cellsE T e (rdE T e xs i)).map FV.d,off)
  | .oel id g i off=>match h id with
    | ⟨g',.row e xs⟩=>match Nat.beq g g' with | true=>some ((cellsE T e (rdE T e xs i)).map FV.d,off) | false=>none
    | _=>none
  | _=>none
def storeK (T:Tbl) (t:TypeId) (h:Nat→Slot T) (a x:FV T) (K:(Nat→Slot T)→Option R):Option R:=match a with
  | .ptr id g off=>match h id with
    | ⟨g',.box cs⟩=>match Nat.beq g g',boxL x with
      | true,some vs=>match Nat.ble (off+vs.length) cs.length,Nat.beq (T.lay t) (match x with | .agg _=>vs.length+2 | _=>1) with
        | true,true=>K (upd h id ⟨g',.box (setL cs off vs)⟩)
        | _,_=>none
      | _,_=>none
    | _=>none
  | .oel id g i off=>match h id with
    | ⟨g',.row e xs⟩=>match Nat.beq g g'&&!hasOwn [x],cellsF h x with
      | true,some vs=>match Nat.ble (off+vs.length) (szE T e),Nat.beq (T.lay t) (match x with | .agg _=>vs.length+2 | _=>1) with
        | true,true=>match mkE T e (setL (cellsE T e (rdE T e xs i)) off vs) with
          | some y=>K (upd h id ⟨g',.row e (xs.set i.toNat y)⟩)
          | none=>none
        | _,_=>none
      | _,_=>none
    | _=>none
  | _=>none
def boolV:FV T→Option Bool
  | .d (.bool b)=>some b
  | .lit b=>some b
  | .prp p i=>some (@decide p i)
  | _=>none
def shK (op:BinOp) (k:IntKind) (x y:Int) (K:FV T→Option R):Option R:=match op with
  | .shl=>if y<0 then none else K (.d (.int k (wr k (x*2 ^ (min y.toNat k.bits)))))
  | .shr=>if y<0 then none else K (.d (.int k (x.fdiv (2 ^ (min y.toNat k.bits)))))
  | _=>none
def kindEq (a b:IntKind):Bool:=decide (a=b)
def binK (te:Option E) (op:BinOp) (x y:FV T) (K:FV T→Option R):Option R:=match x,y with
  | .d (.int k a),.d (.int k' b)=>match kindEq k k' with | true=>binI op k a b K | false=>shK op k a b K
  | .d (.str a),.d (.str b)=>match op with
    | .add=>if a.size+b.size≤9223372036854775807 then K (.d (.str (a++b))) else none
    | .eql=>K (.prp (a=b) inferInstance)
    | .neq=>K (.prp (¬a=b) inferInstance)
    | _=>none
  | x,y=>match te,boolV x,boolV y with
    | some .bool,some a,some b=>match op with
      | .eql=>K (.prp (a=b) inferInstance)
      | .neq=>K (.prp (¬a=b) inferInstance)
      | _=>none
    | _,_,_=>none
def unK (op:UnOp) (x:FV T) (K:FV T→Option R):Option R:=match op,x with
  | .not,.lit b=>K (.lit (!b))
  | .not,.prp p i=>K (.prp (¬p) (@instDecidableNot p i))
  | .not,.d (.bool b)=>K (.d (.bool (!b)))
  | .neg,.d (.int k n)=>K (.d (.int k (wr k (0 - n))))
  | _,_=>none
def ints:List (FV T)→Option (List Int)
  | []=>some []
  | .d (.int .i64 n)::r=>match ints r with | some l=>some (n::l) | none=>none
  | _=>none
def maxI:Int→List Int→Int | a,[]=>a | a,b::r=>maxI (if b>a then b else a) r
def minI:Int→List Int→Int | a,[]=>a | a,b::r=>minI (if b<a then b else a) r
def isNone:Cont T→Bool | .none=>true | _=>false
def dens (e:E) (h:Nat→Slot T):List (FV T)→Option (List (Den T.ST e))
  | []=>some []
  | v::r=>match denF e h v,dens e h r with | some x,some xs=>some (x::xs) | _,_=>none
def inOrder:Nat→List (Nat×Operand)→Bool
  | _,[]=>true
  | n,(i,_)::r=>match Nat.beq i n with | true=>inOrder (n+1) r | false=>false
def castE (ST:Nat→Type) (a b:E) (xs:List (Den ST a)):Option (List (Den ST b)):=match E.dec a b with | .isTrue h=>some (h▸xs) | .isFalse _=>none
def appK (T:Tbl) (dst:Option Tmp) (q:Bool) (h:Nat→Slot T) (e:E) (x y:FV T) (K:FV T→(Nat→Slot T)→Option R):Option R:=
  match q,lstF h y with
  | false,some (.lst e' ys)=>match toL T.ST e' e ys with
    | some ys=>match x with
      | .nil=>match guardD dst with
        | some d=>if ys.length≤T.bnd e then K (.own d ((h d).g+1)) (upd h d ⟨(h d).g+1,.row e ys⟩) else none
        | none=>none
      | .own id g=>match h id with
        | ⟨g',.row e'' xs⟩=>match Nat.beq g g'&&Nat.blt id HR,castE T.ST e'' e xs with
          | true,some xs=>if xs.length+ys.length≤T.bnd e then K (.own id (g+1)) (upd h id ⟨g+1,.row e (xs++ys)⟩) else none
          | _,_=>none
        | _=>none
      | _=>none
    | none=>none
  | _,_=>none
def app0K (T:Tbl) (dst:Option Tmp) (q:Bool) (h:Nat→Slot T) (e:E) (e2:Option E) (x y:FV T) (K:FV T→(Nat→Slot T)→Option R):Option R:=
  match q,guardD dst,e2,x,y with
  | false,some d,some (.int _),.nil,.d (.int _ n)=>if 0<n then (if n≤(T.bnd e:Int) then K (.own d ((h d).g+1)) (upd h d ⟨(h d).g+1,.row e (List.replicate n.toNat (dft T e))⟩) else none) else none
  | _,_,_,_,_=>none
def sliceK (T:Tbl) (t:Option E) (x:FV T) (lo hi:Option (FV T)) (K:FV T→Option R):Option R:=match x with
  | .d (.lst e xs)=>match (match t with | some (.lst e')=>Nat.beq (szE T e') (szE T e) | _=>false) with
   | false=>none
   | true=>match lo,hi with
    | none,none=>K (.d (.lst e xs))
    | none,some (.d (.int _ b))=>if 0≤b then (if b≤(xs.length:Int) then K (.d (.lst e (xs.take b.toNat))) else none) else none
    | some (.d (.int _ a)),none=>if 0≤a then (if a≤(xs.length:Int) then K (.d (.lst e (xs.drop a.toNat))) else none) else none
    | some (.d (.int _ a)),some (.d (.int _ b))=>if 0≤b then (if b≤(xs.length:Int) then (if 0≤a then (if a≤b then K (.d (.lst e ((xs.take b.toNat).drop a.toNat))) else none) else none) else none) else none
    | _,_=>none
  | .d (.str s)=>match (match t with | some .str=>true | _=>false) with
   | false=>none
   | true=>match lo,hi with
    | none,some (.d (.int _ b))=>if 0≤b then (if b≤(s.size:Int) then K (.d (.str (s.extract 0 b.toNat))) else none) else none
    | some (.d (.int _ a)),none=>if 0≤a then (if a≤(s.size:Int) then K (.d (.str (s.extract a.toNat s.size))) else none) else none
    | some (.d (.int _ a)),some (.d (.int _ b))=>if 0≤b then (if b≤(s.size:Int) then (if 0≤a then (if a≤b then K (.d (.str (s.extract a.toNat b.toNat))) else none) else none) else none) else none
    | _,_=>none
  | _=>none
def builtinK (T:Tbl) (o:Oper) (b:Builtin) (ts:List TypeId) (args:List (FV T)) (q:Bool) (h:Nat→Slot T) (K:FV T→(Nat→Slot T)→Option R):Option R:=
  match b,args with
  | .len,[x]=>match ts with
    | t::_=>match T.ety t,x with
      | some .str,.d (.str s)=>K (.d (.int .i64 s.size)) h
      | some (.lst _),.nil=>K (.d (.int .i64 0)) h
      | some (.lst _),x=>match lstF h x with | some (.lst _ xs)=>K (.d (.int .i64 xs.length)) h | _=>none
      | _,_=>none
    | []=>none
  | .cap,[.nil]=>match ts with
    | t::_=>match T.ety t with | some (.lst _)=>K (.d (.int .i64 0)) h | _=>none
    | []=>none
  | .max,x::r=>match ints (x::r) with | some (a::l)=>K (.d (.int .i64 (maxI a l))) h | _=>none
  | .min,x::r=>match ints (x::r) with | some (a::l)=>K (.d (.int .i64 (minI a l))) h | _=>none
  | .append,[x,y]=>match ts with
    | [t,t2]=>match T.ety t,Nat.beq t t2 with
      | some (.lst e),true=>appK T o.dst q h e x y K
      | some (.lst e),false=>app0K T o.dst q h e (T.ety t2) x y K
      | _,_=>none
    | _=>none
  | _,_=>none
def fillF (T:Tbl) (t:TypeId):List (FV T)→List (Nat×FV T)→Option (List (FV T))
  | cs,[]=>some cs
  | cs,(i,v)::r=>match T.plc t i,boxL v with
    | some (o,n),some vs=>match Nat.beq vs.length n&&Nat.ble (o+n) cs.length with | true=>fillF T t (setL cs o vs) r | false=>none
    | _,_=>none
def eqD:List E→List (FV T)→List (FV T)→Option Bool
  | [],[],[]=>some true
  | .int _::es,.d (.int k a)::l,.d (.int k' b)::l'=>match decide (k=k'),eqD es l l' with | true,some r=>some (decide (a=b)&&r) | _,_=>none
  | .str::es,.d (.str a)::l,.d (.str b)::l'=>match eqD es l l' with | some r=>some (decide (a=b)&&r) | none=>none
  | .bool::es,x::l,y::l'=>match boolV x,boolV y,eqD es l l' with | some a,some b,some r=>some (decide (a=b)&&r) | _,_,_=>none
  | _,_,_=>none
def eqK (es:Option (List E)) (op:BinOp) (a b:List (FV T)) (K:FV T→Option R):Option R:=match es with
  | some es=>match eqD es a b with
    | some r=>match op with
      | .eql=>K (.d (.bool r))
      | .neq=>K (.d (.bool (!r)))
      | _=>none
    | none=>none
  | none=>none
def cutK (T:Tbl) (te:Option E) (q:Bool) (h:Nat→Slot T) (id g:Nat) (lo hi:Option (FV T)) (K:FV T→(Nat→Slot T)→Option R):Option R:=
  match q,lo,hi,h id with
  | false,none,some (.d (.int _ b)),⟨g',.row e xs⟩=>match Nat.beq g g'&&Nat.blt id HR,(match te with | some (.lst e')=>Nat.beq (szE T e') (szE T e) | _=>false) with
    | true,true=>if 0≤b then (if b≤(xs.length:Int) then K (.own id (g+1)) (upd h id ⟨g+1,.row e (xs.take b.toNat)⟩) else none) else none
    | _,_=>none
  | _,_,_,_=>none
def bt (s:ByteArray) (i:Int):Int:=if h:i.toNat<s.size then ((s[i.toNat]'h).toNat:Int) else 0
def aop (T:Tbl) (cal:Cal T R) (o:Oper) (q:Bool) (s:St T) (K:FV T→(Nat→Slot T)→Option R):Option R:=
  match o.op with
  | .move x | .assign x=>K (ev s x) s.h
  | .pick c a b=>match ev s c with
    | .lit true=>K (ev s a) s.h
    | .lit false=>K (ev s b) s.h
    | .prp p i=>@ite _ p i (K (ev s a) s.h) (K (ev s b) s.h)
    | .d (.bool b')=>if b'=true then K (ev s a) s.h else K (ev s b) s.h
    | _=>none
  | .alloc t=>match o.dst,T.ety t with
    | some d,some e=>match isNone (s.h d).c,Nat.blt d HB with
      | true,true=>K (.ptr d (s.h d).g 0) (upd s.h d ⟨(s.h d).g,.box ((cellsE T e (dft T e)).map zeroF)⟩)
      | _,_=>none
    | _,_=>none
  | .box _ x=>match o.dst,boxL (ev s x) with
    | some d,some cs=>match isNone (s.h d).c,Nat.blt d HB with
      | true,true=>K (.ptr d (s.h d).g 0) (upd s.h d ⟨(s.h d).g,.box cs⟩)
      | _,_=>none
    | _,_=>none
  | .build t parts=>match T.ety t,T.plc t 0 with
    | some e,some _=>match fillF T t ((cellsE T e (dft T e)).map zeroF) (parts.toList.map fun p=>(p.1,ev s p.2)) with
      | some cs=>K (.agg cs) s.h
      | none=>none
    | _,_=>none
  | .buildSlice t n parts=>match guardD o.dst,T.ety t with
    | some d,some (.lst e)=>match isNone (s.h d).c,Nat.beq parts.toList.length n&&Nat.ble (n*szE T e) 16777216,inOrder 0 parts.toList,q&&hasOwn (parts.toList.map fun p=>ev s p.2),dens e s.h (parts.toList.map fun p=>ev s p.2) with
      | true,true,true,false,some xs=>K (.own d (s.h d).g) (upd (frzFs s.h (parts.toList.map fun p=>ev s p.2)) d ⟨(s.h d).g,.row e xs⟩)
      | _,_,_,_,_=>none
    | _,_=>none
  | .makeSlice t l c=>match guardD o.dst,T.ety t with
    | some d,some (.lst e)=>match isNone (s.h d).c,ev s l,ev s c with
      | true,.d (.int .i64 n),.d (.int .i64 m)=>if 0≤n then (if n≤m then (if m≤(T.bnd e:Int) then K (.own d (s.h d).g) (upd s.h d ⟨(s.h d).g,.row e (List.replicate n.toNat (dft T e))⟩) else none) else none) else none
      | _,_,_=>none
    | _,_=>none
  | .load t a=>match atF s.h (ev s a) with
    | some (cs,off)=>match loadF T t cs off with | some v=>K v s.h | none=>none
    | none=>none
  | .store t a x=>match q with
    | true=>none
    | false=>storeK T t s.h (ev s a) (ev s x) fun h=>K .non h
  | .fieldAddr t x f=>match T.fld t f,atF s.h (ev s x) with
    | some o',some _=>match ev s x with
      | .ptr id g off=>K (.ptr id g (off+o')) s.h
      | .elp e xs i off=>K (.elp e xs i (off+o')) s.h
      | .oel id g i off=>K (.oel id g i (off+o')) s.h
      | _=>none
    | _,_=>none
  | .indexAddr t x i=>match T.ety t,ev s i with
    | some (.lst e),.d (.int _ i)=>idxK s.h (szE T e) (ev s x) i fun v=>K v s.h
    | some (.st _),.d (.int _ i)=>match i with
      | .ofNat m=>match T.arr t,T.plc t m,atF s.h (ev s x) with
        | true,some (o,_),some _=>match ev s x with
          | .ptr id g off=>K (.ptr id g (off+o)) s.h
          | .elp e xs i off=>K (.elp e xs i (off+o)) s.h
          | .oel id g i off=>K (.oel id g i (off+o)) s.h
          | _=>none
        | _,_,_=>none
      | _=>none
    | _,_=>none
  | .index t x i=>match T.ety t,ev s x,ev s i with
    | some .str,.d (.str b),.d (.int _ i)=>if 0≤i then (if i<(b.size:Int) then K (.d (.int .u8 (bt b i))) s.h else none) else none
    | _,_,_=>none
  | .nilCheck x=>match atF s.h (ev s x),ev s x with
    | some _,.ptr id g off=>K (.ptr id g off) s.h
    | some _,.elp e xs i off=>K (.elp e xs i off) s.h
    | some _,.oel id g i off=>K (.oel id g i off) s.h
    | _,_=>none
  | .binOp op t x y _=>match ev s x,ev s y with
    | .agg a,.agg b=>eqK (T.eqs t) op a b fun v=>K v s.h
    | vx,vy=>binK (T.ety t) op vx vy fun v=>K v s.h
  | .convert src dst x=>match T.ety src,T.ety dst,ev s x with
    | some (.int _),some (.int k),.d (.int _ n)=>K (.d (.int k (wr k n))) s.h
    | _,_,_=>none
  | .unOp op _ x=>unK op (ev s x) fun v=>K v s.h
  | .slice t x lo hi mx=>match mx with
    | none=>match ev s x with
      | .own id g=>cutK T (T.ety t) q s.h id g (lo.map (ev s)) (hi.map (ev s)) K
      | .nil=>match T.ety t,lo,hi.map (ev s) with
        | some (.lst _),none,some (.d (.int _ b))=>if b=0 then K .nil s.h else none
        | _,_,_=>none
      | v=>sliceK T (T.ety t) v (lo.map (ev s)) (hi.map (ev s)) fun v=>K v s.h
    | some _=>none
  | .extract t ix=>match ev s t with
    | .tup vs=>match vs[ix]? with | some v=>K v s.h | none=>none
    | _=>none
  | .makeFunc fn first caps=>match fn,first.toList with
    | .func f,[]=>K (.clo f (caps.toList.map (ev s))) s.h
    | _,_=>none
  | .call c=>match c.callee with
    | .builtin b=>builtinK T o b c.argTypes.toList (c.args.toList.map (ev s)) q s.h K
    | .value f=>match ev s f with
      | .clo n caps=>match cal.two n with
       | true=>(match q with
        | true=>none
        | false=>match cal.rel n with
          | true=>none
          | false=>cal.l n (match o.dst with | some d=>d+1 | none=>0) (c.args.toList.map (ev s)++caps) s.h K)
       | false=>match pureFs s.h (c.args.toList.map (ev s)++caps) with
        | some ars=>cal.q n ars fun v=>match plain1 v with
          | true=>K v s.h
          | false=>match q&&hasOwn (c.args.toList.map (ev s)++caps) with
            | true=>none
            | false=>K v (frzFs s.h (c.args.toList.map (ev s)++caps))
        | none=>none
      | _=>none
    | _=>none
  | _=>none
def bumps (h:Nat→Slot T):List Oper→Nat→Slot T
  | []=>h
  | o::r=>match o.op,o.dst with
    | .alloc _,some d | .box _ _,some d | .buildSlice _ _ _,some d | .makeSlice _ _ _,some d=>bumps (upd h d ⟨(h d).g+1,.none⟩) r
    | _,_=>bumps h r
def gtmp (ops:List Oper) (j:Nat):Option Tmp:=match ops.drop j with | o::_=>o.dst | []=>none
def putF (N:Nat) (d:Option Tmp) (v:FV T) (f:Nat→FV T) (K:(Nat→FV T)→Option R):Option R:=match d with
  | some d=>match Nat.blt d N with | true=>K (upd f d v) | false=>none
  | none=>K f
def branch (s:St T) (t:Nat) (v:FV T) (yes no:St T→Option R):Option R:=match v with
  | .lit true=>yes s
  | .lit false=>no s
  | .prp p i=>@ite _ p i (yes ⟨upd s.f t (.lit true),s.h⟩) (no ⟨upd s.f t (.lit false),s.h⟩)
  | .d (.bool b)=>if b=true then yes ⟨upd s.f t (.lit true),s.h⟩ else no ⟨upd s.f t (.lit false),s.h⟩
  | _=>none
def relOp (cal:Cal T R) (o:Oper) (s:St T):Option (FuncId×List (FV T)):=match o.op with
  | .call c=>match c.callee with
    | .value f=>match ev s f with
      | .clo n caps=>match cal.rel n with
        | true=>some (n,c.args.toList.map (ev s)++caps)
        | false=>none
      | _=>none
    | _=>none
  | _=>none
def aopS (T:Tbl) (cal:Cal T R) (o:Oper) (q:Bool) (s:St T) (K:FV T→(Nat→Slot T)→Option R):Option R:=match relOp cal o s with
  | some p=>cal.l p.1 (match o.dst with | some d=>d+1 | none=>0) p.2 s.h K
  | none=>aop T cal o q s K
def aops (T:Tbl) (cal:Cal T R) (N:Nat) (all:List Oper):List (Oper×Bool)→St T→(St T→Option R)→Option R
  | [],s,K=>K s
  | (o,q)::r,s,K=>
    match o.guard with
    | none=>(match cal.hv N o s with
      | some G=>G fun s'=>aops T cal N all r s' K
      | none=>aopS T cal o q s fun v h=>putF N o.dst v s.f fun f=>aops T cal N all r ⟨f,h⟩ K)
    | some (j,want)=>
      match gtmp all j with
      | none=>none
      | some t=>
        let yes:St T→Option R:=fun s=>aopS T cal o q s fun v h=>putF N o.dst v s.f fun f=>aops T cal N all r ⟨f,h⟩ K
        let no:St T→Option R:=fun s=>putF N o.dst (.tup []) s.f fun f=>aops T cal N all r ⟨f,s.h⟩ K
        match s.f t with
        | .tup []=>no s
        | v=>match want with
          | true=>branch s t v yes no
          | false=>branch s t v no yes
def befores:List Oper→List Nat→List Nat
  | [],acc=>acc
  | o::r,acc=>befores r (acc++[o.after.toList.foldl (fun s e=>match Region.binds .any e with | true=>(s ||| 2 ^ e.on) ||| acc.getD e.on 0 | false=>s) 0])
def cmp (b:List Nat) (i j:Nat):Bool:=(b.getD j 0).testBit i||(b.getD i 0).testBit j
def rdsOf (o:Oper) (ops:List Oper):List Tmp:=o.op.operands.toList.filterMap (fun | .tmp t=>some t | _=>none)++(match o.guard with | some (j,_)=>(gtmp ops j).toList | none=>[])
def loud (ops:List Oper) (b:List Nat) (j:Nat):Bool:=(List.range ops.length).all fun i=>Nat.beq i j||cmp b i j
def drawOk (ops:List Oper):Bool:=
  let b:=befores ops []
  let n:=ops.length
  (List.range n).all fun j=>
    match ops.drop j with
    | []=>true
    | o::_=>
      (b.getD j 0)<2 ^ j &&
      (List.range n).all fun i=>match ops.drop i with
        | []=>true
        | p::_=>match p.dst with
          | none=>true
          | some d=>Nat.beq i j||(!(o.dst==some d)&&(!((rdsOf o ops).contains d)||cmp b i j))
def memN (t:Nat):List Nat→Bool | []=>false | a::r=>match Nat.beq t a with | true=>true | false=>memN t r
mutual
def ids:FV T→List Nat
  | .own id _=>[id]
  | .ptr id _ _=>[id]
  | .oel id _ _ _=>[id]
  | .agg cs=>idsL cs
  | .tup cs=>idsL cs
  | .clo _ cs=>idsL cs
  | .d _=>[]
  | .lit _=>[]
  | .prp _ _=>[]
  | .elp _ _ _ _=>[]
  | .nil=>[]
  | .non=>[]
def idsL:List (FV T)→List Nat
  | []=>[]
  | c::cs=>ids c++idsL cs
end
def idsC:Cont T→List Nat | .box cs=>idsL cs | _=>[]
def reach (h:Nat→Slot T):Nat→List Nat→List Nat→List Nat
  | 0,_,seen=>seen
  | _+1,[],seen=>seen
  | n+1,i::r,seen=>match memN i seen with
    | true=>reach h n r seen
    | false=>reach h n (idsC (h i).c++r) (i::seen)
def allIn (l ks:List Nat):Bool:=l.all fun i=>memN i ks
def closR (h:Nat→Slot T) (ks:List Nat):Bool:=ks.all fun i=>allIn (idsC (h i).c) ks
def noneIn (l ks:List Nat):Bool:=l.all fun i=>!memN i ks
def maskH (ks:List Nat) (h:Nat→Slot T):Nat→Slot T:=fun id=>match memN id ks with | true=>h id | false=>⟨(h id).g,.none⟩
def mergeH (ks:List Nat) (h' h:Nat→Slot T):Nat→Slot T:=match ks with
  | []=>h
  | ks=>fun id=>match memN id ks with | true=>h' id | false=>h id
def cls (cal:Cal T R) (o:Oper) (s:St T):Nat:=match o.op with
  | .move _ | .assign _ | .pick _ _ _ | .extract _ _ | .unOp _ _ _ | .binOp _ _ _ _ _ | .convert _ _ _ | .index _ _ _ | .build _ _=>0
  | .makeFunc _ _ _=>0
  | .store _ _ _=>2
  | .slice _ x _ _ _=>match ev s x with | .own _ _=>2 | _=>0
  | .buildSlice _ _ parts=>match hasOwn (parts.toList.map fun p=>ev s p.2) with | true=>2 | false=>1
  | .call c=>match c.callee with
    | .builtin .append=>2
    | .value f=>match ev s f with
      | .clo n caps=>match cal.two n with
        | true=>2
        | false=>match hasOwn (c.args.toList.map (ev s)++caps) with | true=>2 | false=>1
      | _=>1
    | _=>1
  | _=>1
def opIds (o:Oper) (s:St T):List Nat:=idsL (o.op.operands.toList.map (ev s))
def newIn (ρ:List Nat) (l:List Nat):List Nat:=l.filter fun i=>!memN i ρ
def dstOut (d:Option Tmp) (ρ:List Nat):Bool:=match d with | some d=>!memN d ρ | none=>true
def okNew (ρ nw:List Nat) (h h':Nat→Slot T) (v:FV T):Bool:=
  (nw.all fun i=>Nat.blt (h i).g (h' i).g||(isNone (h i).c&&Nat.ble (h i).g (h' i).g))&&(allIn (ids v) (nw++ρ)&&closR h' (nw++ρ))
def aopO (T:Tbl) (cal:Cal T R) (o:Oper) (s:St T) (K:FV T→(Nat→Slot T)→List Nat→List Nat→Option R):Option R:=
  match cls cal o s with
  | 0=>aop T cal o true s fun v _=>K v s.h [] []
  | 1=>
    let ρ:=reach s.h 400 (opIds o s) []
    match closR s.h ρ&&(allIn (opIds o s) ρ&&dstOut o.dst ρ) with
    | true=>aop T cal o true ⟨s.f,maskH ρ s.h⟩ fun v h'=>
      let nw:=newIn ρ (reach h' 400 (ids v) [])
      match okNew ρ nw s.h h' v with
      | true=>K v (mergeH nw h' s.h) (nw++ρ) nw
      | false=>none
    | false=>none
  | _=>
    let ρ:=reach s.h 400 (opIds o s) []
    match closR s.h ρ&&allIn (opIds o s) ρ with
    | true=>aop T cal o false ⟨s.f,maskH ρ s.h⟩ fun v h'=>
      let nw:=newIn ρ (reach h' 400 (ids v) [])
      match okNew ρ nw s.h h' v with
      | true=>K v (mergeH (nw++ρ) h' s.h) (nw++ρ) (nw++ρ)
      | false=>none
    | false=>none
def pairs (b:List Nat) (j:Nat) (ρ τ:List Nat):List (Nat×List Nat×List Nat)→Bool
  | []=>true
  | (i,ρ',τ')::r=>match cmp b i j||(noneIn τ ρ'&&noneIn τ' ρ) with | true=>pairs b j ρ τ r | false=>false
def aopsO (T:Tbl) (cal:Cal T R) (N:Nat) (all:List Oper) (b:List Nat):Nat→List (Nat×List Nat×List Nat)→List Oper→St T→(St T→Option R)→Option R
  | _,_,[],s,K=>K s
  | j,acc,o::r,s,K=>
    match o.guard with
    | none=>aopO T cal o s fun v h ρ τ=>match pairs b j ρ τ acc with | true=>putF N o.dst v s.f fun f=>aopsO T cal N all b (j+1) ((j,ρ,τ)::acc) r ⟨f,h⟩ K | false=>none
    | some (jj,want)=>
      match gtmp all jj with
      | none=>none
      | some t=>
        let yes:St T→Option R:=fun s=>aopO T cal o s fun v h ρ τ=>match pairs b j ρ τ acc with | true=>putF N o.dst v s.f fun f=>aopsO T cal N all b (j+1) ((j,ρ,τ)::acc) r ⟨f,h⟩ K | false=>none
        let no:St T→Option R:=fun s=>putF N o.dst (.tup []) s.f fun f=>aopsO T cal N all b (j+1) acc r ⟨f,s.h⟩ K
        match s.f t with
        | .tup []=>no s
        | v=>match want with
          | true=>branch s t v yes no
          | false=>branch s t v no yes
def initL {α:Type _}:List α→List α | []=>[] | [_]=>[] | a::b::l=>a::initL (b::l)
def lastL {α:Type _}:List α→Option α | []=>none | [a]=>some a | _::b::l=>lastL (b::l)
def lastHv (cal:Cal T R) (ops:List Oper):Option Oper:=match lastL ops with
  | some o=>match cal.site o&&(Nat.beq ((befores ops []).getD (ops.length - 1) 0+1) (2 ^ (ops.length - 1))&&((match o.guard with | none=>true | some _=>false)&&ops.all fun p=>match p.guard with | none=>true | some (j,_)=>Nat.blt j (ops.length - 1))) with | true=>some o | false=>none
  | none=>none
def lastK (T:Tbl) (cal:Cal T R) (N:Nat) (o:Oper) (ops:List Oper) (s:St T) (K:St T→Option R):Option R:=match drawOk (initL ops) with
  | true=>aopsO T cal N (initL ops) (befores (initL ops) []) 0 [] (initL ops) s fun s'=>(match cal.hv N o s' with | some G=>G K | none=>none)
  | false=>none
def regK (T:Tbl) (cal:Cal T R) (N:Nat) (ops:List Oper) (draw:Bool) (s:St T) (K:St T→Option R):Option R:=match draw with
  | false=>aops T cal N ops (ops.map fun o=>(o,false)) s K
  | true=>match drawOk ops with
    | true=>(match cal.rg N ops s with
      | some G=>G K
      | none=>(match lastHv cal ops with
        | some o=>lastK T cal N o ops s K
        | none=>aopsO T cal N ops (befores ops []) 0 [] ops s K))
    | false=>none
inductive Itm where
  | code (p:List Bool) | blk (id:Nat) | lop (p:List Bool)
def codeAt:Code→List Bool→Code
  | c,[]=>c
  | .seq a b,x::r=>match x with | false=>codeAt a r | true=>codeAt b r
  | .cond _ a b,x::r=>match x with | false=>codeAt a r | true=>codeAt b r
  | .block _ b,_::r=>codeAt b r
  | .loop b,_::r=>codeAt b r
  | c,_=>c
def Itm.item (b:Code):Itm→Item
  | .code p=>.code (codeAt b p)
  | .blk id=>.inBlock id
  | .lop p=>.inLoop (codeAt b p)
def posEq:List Bool→List Bool→Bool
  | [],[]=>true
  | true::a,true::b=>posEq a b
  | false::a,false::b=>posEq a b
  | _,_=>false
def itmEq:Itm→Itm→Bool
  | .code p,.code q=>posEq p q
  | .blk i,.blk j=>Nat.beq i j
  | .lop p,.lop q=>posEq p q
  | _,_=>false
def todoEq:List Itm→List Itm→Bool
  | [],[]=>true
  | x::a,y::b=>match itmEq x y with | true=>todoEq a b | false=>false
  | _,_=>false
def find (r:Nat):Code→List Bool→List Itm→Option (List Itm)
  | .region id _ _,p,k=>match Nat.beq id r with | true=>some (.code p::k) | false=>none
  | .seq a b,p,k=>match find r a (p++[false]) (.code (p++[true])::k) with | some t=>some t | none=>find r b (p++[true]) k
  | .cond _ a b,p,k=>match find r a (p++[false]) k with | some t=>some t | none=>find r b (p++[true]) k
  | .block id b,p,k=>find r b (p++[false]) (.blk id::k)
  | .loop b,p,k=>find r b (p++[false]) (.lop (p++[false])::k)
  | _,_,_=>none
def exitI (id:Nat):List Itm→Option (List Itm)
  | []=>none
  | .blk j::k=>match Nat.beq j id with | true=>some k | false=>exitI id k
  | _::k=>exitI id k
abbrev Jmp (T:Tbl) (R:Type):=Nat→Option (St T→Option R)
def arun (T:Tbl) (cal:Cal T R) (J:Jmp T R) (fin:St T→Option R) (N:Nat) (body:Code):Nat→Bool→List Itm→St T→Option R
  | 0,_,_,_=>none
  | _+1,_,[],s=>fin s
  | n+1,fst,.blk _::k,s=>arun T cal J fin N body n fst k s
  | n+1,fst,.lop p::k,s=>arun T cal J fin N body n fst (.code p::.lop p::k) s
  | n+1,fst,.code p::k,s=>match codeAt body p with
    | .seq _ _=>arun T cal J fin N body n fst (.code (p++[false])::.code (p++[true])::k) s
    | .skip=>arun T cal J fin N body n fst k s
    | .ret=>fin s
    | .block id _=>arun T cal J fin N body n fst (.code (p++[false])::.blk id::k) s
    | .loop _=>arun T cal J fin N body n fst (.code (p++[false])::.lop (p++[false])::k) s
    | .exit id=>match exitI id k with | some k'=>arun T cal J fin N body n fst k' s | none=>none
    | .cond c _ _=>match c with
      | .tmp t=>branch s t (s.f t) (fun s=>arun T cal J fin N body n false (.code (p++[false])::k) s) (fun s=>arun T cal J fin N body n false (.code (p++[true])::k) s)
      | _=>none
    | .region id ops draw=>match fst,J id with
      | false,some j=>match find id body [] [] with
        | some k'=>match todoEq k' (.code p::k) with | true=>j s | false=>none
        | none=>none
      | _,_=>regK T cal N ops.toList draw ⟨s.f,bumps s.h ops.toList⟩ fun s'=>arun T cal J fin N body n false k s'
    | _=>none
end
end Go.Proofs.YtggmgmkhohmfiaaGreat.PE
namespace Go.Proofs.YtggmgmkhohmfiaaGreat.PE
noncomputable section
set_option linter.unusedVariables false
open Go Go.RowKit
variable {T:Tbl} {R:Type}
mutual
def fixF (h:Nat→Slot T):FV T→FV T
 | .own id g=>match Nat.beq g (h id).g with | true=>.own id 1 | false=>.own id 0
 | .ptr id g off=>match Nat.beq g (h id).g with | true=>.ptr id 1 off | false=>.ptr id 0 off
 | .oel id g i off=>match Nat.beq g (h id).g with | true=>.oel id 1 i off | false=>.oel id 0 i off
 | .agg cs=>.agg (fixL h cs)
 | .tup cs=>.tup (fixL h cs)
 | .clo f cs=>.clo f (fixL h cs)
 | .d x=>.d x
 | .lit b=>.lit b
 | .prp p i=>.prp p i
 | .elp e xs i off=>.elp e xs i off
 | .nil=>.nil
 | .non=>.non
def fixL (h:Nat→Slot T):List (FV T)→List (FV T)
 | []=>[]
 | c::cs=>fixF h c::fixL h cs
end
def fixC (h:Nat→Slot T):Cont T→Cont T
 | .box cs=>.box (fixL h cs)
 | .none=>.none
 | .row e xs=>.row e xs
 | .frz e xs=>.frz e xs
def norm (live:List Nat) (s:St T):St T:=
 ⟨fun t=>match memN t live with | true=>fixF s.h (s.f t) | false=>.non,fun id=>⟨1,fixC s.h (s.h id).c⟩⟩
def lookN {α:Type _} (z:α):List (Nat×α)→Nat→α
 | [],_=>z
 | (i,v)::r,t=>match Nat.beq t i with | true=>v | false=>lookN z r t
def canon (l:List (Nat×FV T)) (hl:List (Nat×Cont T)):St T:=⟨lookN .non l,fun id=>⟨1,lookN .none hl id⟩⟩
def runU (T:Tbl) (cal:Cal T R) (J:Jmp T R) (fin:St T→Option R) (fn:Func) (r:Option Nat) (s:St T):Option R:=
 match fn.body with
 | none=>none
 | some b=>match (match r with | none=>some [.code []] | some r=>find r b [] []) with
  | some k=>arun T cal J fin fn.ntmps b 100000 true k s
  | none=>none
def args0:Nat→List (FV T)→List (Nat×FV T)
 | _,[]=>[]
 | n,v::r=>(n,v)::args0 (n+1) r
def resV (h:Nat→Slot T) (f:Nat→FV T):ResultVar→Option (FV T)
 | .tmp t=>some (f t)
 | .cell a t=>match atF h (f a) with | some (cs,off)=>loadF T t cs off | none=>none
def resF (h:Nat→Slot T) (f:Nat→FV T):List ResultVar→Option (List (FV T))
 | []=>some []
 | x::r=>match resV h f x with
  | some u=>match pureF h u,resF h f r with | some v,some l=>some (v::l) | _,_=>none
  | none=>none
def finK (fn:Func) (K:FV T→Option R) (s:St T):Option R:=match resF s.h s.f fn.results.toList with
 | some [v]=>K v
 | some l=>K (.tup l)
 | none=>none
mutual
def refsIn (ks:List Nat):FV T→Bool
 | .own id g=>Nat.beq g 0||memN id ks
 | .ptr id g _=>Nat.beq g 0||memN id ks
 | .oel id g _ _=>Nat.beq g 0||memN id ks
 | .agg cs=>refsInL ks cs
 | .tup cs=>refsInL ks cs
 | .clo _ cs=>refsInL ks cs
 | .d _=>true
 | .lit _=>true
 | .prp _ _=>true
 | .elp _ _ _ _=>true
 | .nil=>true
 | .non=>true
def refsInL (ks:List Nat):List (FV T)→Bool
 | []=>true
 | c::cs=>refsIn ks c&&refsInL ks cs
end
def refsC (ks:List Nat):Cont T→Bool | .box cs=>refsInL ks cs | _=>true
def closed (l:List (Nat×FV T)) (hl:List (Nat×Cont T)):Bool:=l.all (fun p=>refsIn (hl.map (·.1)) p.2)&&hl.all (fun p=>refsC (hl.map (·.1)) p.2)
inductive Sh where
 | one | agg (n:Nat) | tup (l:List Sh)
mutual
def flatS:Sh→FV T→Option (List (FV T))
 | .one,.agg _=>none
 | .one,.tup _=>none
 | .one,v=>some [v]
 | .agg n,.agg cs=>match Nat.beq cs.length n with | true=>some cs | false=>none
 | .tup l,.tup vs=>flatL l vs
 | _,_=>none
def flatL:List Sh→List (FV T)→Option (List (FV T))
 | [],[]=>some []
 | s::l,v::vs=>match flatS s v,flatL l vs with | some a,some b=>some (a++b) | _,_=>none
 | _,_=>none
end
mutual
def szS:Sh→Nat
 | .one=>1
 | .agg n=>n
 | .tup l=>szL l
def szL:List Sh→Nat
 | []=>0
 | s::l=>szS s+szL l
end
mutual
def outS:Sh→List (FV T)→FV T
 | .one,c::_=>c
 | .one,[]=>.nil
 | .agg n,cs=>.agg (cs.take n)
 | .tup l,cs=>.tup (outL l cs)
def outL:List Sh→List (FV T)→List (FV T)
 | [],_=>[]
 | s::l,cs=>outS s (cs.take (szS s))::outL l (cs.drop (szS s))
end
@[reducible] def TupT (ST:Nat→Type):List E→Type
 | []=>Unit
 | [e]=>Den ST e
 | e::e2::l=>Den ST e×TupT ST (e2::l)
def getT (h:Nat→Slot T):(es:List E)→List (FV T)→Option (TupT T.ST es)
 | [],[]=>some ()
 | [e],[c]=>match dyn1 h c with | some x=>mkE T e [x] | none=>none
 | e::e2::l,c::cs=>match dyn1 h c with
  | some x=>match mkE T e [x],getT h (e2::l) cs with | some a,some b=>some (a,b) | _,_=>none
  | none=>none
 | _,_=>none
def cellsT (T:Tbl):(es:List E)→TupT T.ST es→List (FV T)
 | [],_=>[]
 | [e],x=>(cellsE T e x).map FV.d
 | e::e2::l,x=>(cellsE T e x.1).map FV.d++cellsT T (e2::l) x.2
def noH:Nat→Slot T:=fun _=>⟨1,.none⟩
def retK (T:Tbl) (sh:Sh) (es:List E) (v:FV T):Option (TupT T.ST es):=match flatS sh v with | some cs=>getT noH es cs | none=>none
def outK (T:Tbl) (sh:Sh) (es:List E) (x:TupT T.ST es):FV T:=outS sh (cellsT T es x)
end
end Go.Proofs.YtggmgmkhohmfiaaGreat.PE
namespace Go.Proofs.YtggmgmkhohmfiaaGreat.PE
noncomputable section
set_option linter.unusedVariables false
open Go Go.RowKit
variable {T:Tbl} {R:Type}
def kd:Dyn T.ST→Value→Prop
 | .int k _,v=>∃n,v=.int k n
 | .bool _,v=>∃b,v=.bool b
 | .str _,v=>∃s,v=.string s
 | .lst _ _,v=>∃A n c,v=.slice A n c
 | .nil,v=>∃A n c,v=.slice A n c
def Kinds (T:Tbl) (e:E) (n:Nat) (at_:Nat→Option Value):Prop:=
 ∀i,i<n→∀j y,(cellsE T e (dft T e))[j]?=some y→∃cv,at_ (i*szE T e+j)=some cv∧kd y cv
def Room (T:Tbl) (w:World) (S:E→Nat→Prop) (e:E) (c:Nat) (A:Option Addr):Prop:=
 T.str e=true→c≠0→∃b o,A=some ⟨b,o,none⟩∧S e b∧(∃arr t,w.heap[b]?=some (.cells arr t (0,0)))∧Kinds T e c (fun k=>w.cell? ⟨b,o+k,none⟩)
def Plain (T:Tbl) (w:World) (e:E) (b:Nat):Prop:=T.str e=true→∃arr t,w.heap[b]?=some (.cells arr t (0,0))
def low (T:Tbl) (b:Nat):Dyn T.ST→Value→Prop
 | .lst e _,v=>T.str e=true→∀A n c,v=.slice A n c→c≠0→∃b' o,A=some ⟨b',o,none⟩∧b'≠b
 | _,_=>True
def LowAt (T:Tbl) (w:World) (e:E) (b o:Nat) (x:Den T.ST e):Prop:=∀(j:Nat) y,(cellsE T e x)[j]?=some y→∀cv,w.cell? ⟨b,o+j,none⟩=some cv→low T b y cv
def RepD (T:Tbl) (w:World) (S:E→Nat→Prop):Nat→Dyn T.ST→Value→Prop
 | 0,_,_=>False
 | _+1,.int k n,v=>v=.int k n
 | _+1,.bool b,v=>v=.bool b
 | _+1,.str s,v=>v=.string s
 | _+1,.nil,v=>∃A,v=.slice A 0 0
 | m+1,.lst e xs,v=>∃A c,v=.slice A xs.length c∧xs.length≤c∧Room T w S e c A∧(xs≠[]→∃b o,A=some ⟨b,o,none⟩∧S e b∧
   ∀i x,xs[i]?=some x→∀j y,(cellsE T e x)[j]?=some y→∃cv,w.cell? ⟨b,o+i*szE T e+j,none⟩=some cv∧RepD T w S m y cv∧low T b y cv)
theorem RepD.succ {w:World} {S:E→Nat→Prop}:∀{m:Nat} {d:Dyn T.ST} {v:Value},RepD T w S m d v→RepD T w S (m+1) d v:=by
 intro m
 induction m with
 | zero=>intro d v h;exact h.elim
 | succ m ih=>
  intro d v h
  cases d with
  | int k n=>exact h
  | bool b=>exact h
  | str s=>exact h
  | nil=>exact h
  | lst e xs=>
   obtain ⟨A,c,h1,h2,h0,h3⟩:=h
   refine ⟨A,c,h1,h2,h0,fun hx=>?_⟩
   obtain ⟨b,o,ha,hs,hc⟩:=h3 hx
   refine ⟨b,o,ha,hs,fun i x hi j y hj=>?_⟩
   obtain ⟨cv,h4,h5,h6⟩:=hc i x hi j y hj
   exact ⟨cv,h4,ih h5,h6⟩
theorem RepD.le {w:World} {S:E→Nat→Prop} {m m':Nat} {d:Dyn T.ST} {v:Value} (h:RepD T w S m d v) (hm:m≤m'):RepD T w S m' d v:=by
 induction hm with
 | refl=>exact h
 | step _ ih=>exact ih.succ
theorem Room.mono {w w':World} {S S':E→Nat→Prop} (hS:∀e b,S e b→S' e b∧w'.heap[b]?=w.heap[b]?) {e:E} {c:Nat} {A:Option Addr} (h:Room T w S e c A):Room T w' S' e c A:=by
 intro he hc
 obtain ⟨b,o,h1,h2,hp,h3⟩:=h he hc
 refine ⟨b,o,h1,(hS e b h2).1,by rw [(hS e b h2).2];exact hp,fun i hi j y hj=>?_⟩
 obtain ⟨cv,h4,h5⟩:=h3 i hi j y hj
 refine ⟨cv,?_,h5⟩
 rw [←h4]
 simp only [World.cell?]
 rw [(hS e b h2).2]
theorem RepD.mono {w w':World} {S S':E→Nat→Prop} (hS:∀e b,S e b→S' e b∧w'.heap[b]?=w.heap[b]?):∀{m:Nat} {d:Dyn T.ST} {v:Value},RepD T w S m d v→RepD T w' S' m d v:=by
 intro m
 induction m with
 | zero=>intro d v h;exact h.elim
 | succ m ih=>
  intro d v h
  cases d with
  | int k n=>exact h
  | bool b=>exact h
  | str s=>exact h
  | nil=>exact h
  | lst e xs=>
   obtain ⟨A,c,h1,h2,h0,h3⟩:=h
   refine ⟨A,c,h1,h2,h0.mono hS,fun hx=>?_⟩
   obtain ⟨b,o,ha,hs,hc⟩:=h3 hx
   refine ⟨b,o,ha,(hS e b hs).1,fun i x hi j y hj=>?_⟩
   obtain ⟨cv,h4,h5,h6⟩:=hc i x hi j y hj
   refine ⟨cv,?_,ih h5,h6⟩
   rw [←h4]
   simp only [World.cell?]
   rw [(hS e b hs).2]
def Rep (T:Tbl) (w:World) (S:E→Nat→Prop) (d:Dyn T.ST) (v:Value):Prop:=∃m,RepD T w S m d v
theorem Rep.mono {w w':World} {S S':E→Nat→Prop} {d:Dyn T.ST} {v:Value} (h:Rep T w S d v) (hS:∀e b,S e b→S' e b∧w'.heap[b]?=w.heap[b]?):Rep T w' S' d v:=let ⟨m,hm⟩:=h;⟨m,hm.mono hS⟩
theorem rep_int {w:World} {S:E→Nat→Prop} {k:IntKind} {n:Int} {v:Value}:Rep T w S (.int k n) v↔v=.int k n:=
 ⟨fun ⟨m,h⟩=>by cases m with | zero=>exact h.elim | succ m=>exact h,fun h=>⟨1,h⟩⟩
theorem rep_bool {w:World} {S:E→Nat→Prop} {b:Bool} {v:Value}:Rep T w S (.bool b) v↔v=.bool b:=
 ⟨fun ⟨m,h⟩=>by cases m with | zero=>exact h.elim | succ m=>exact h,fun h=>⟨1,h⟩⟩
theorem rep_str {w:World} {S:E→Nat→Prop} {b:ByteArray} {v:Value}:Rep T w S (.str b) v↔v=.string b:=
 ⟨fun ⟨m,h⟩=>by cases m with | zero=>exact h.elim | succ m=>exact h,fun h=>⟨1,h⟩⟩
theorem rep_nil {w:World} {S:E→Nat→Prop} {v:Value}:Rep T w S .nil v↔∃A,v=.slice A 0 0:=
 ⟨fun ⟨m,h⟩=>by cases m with | zero=>exact h.elim | succ m=>exact h,fun h=>⟨1,h⟩⟩
def Elems (T:Tbl) (w:World) (S:E→Nat→Prop) (e:E) (xs:List (Den T.ST e)) (at_:Nat→Option Value):Prop:=
 ∀i x,xs[i]?=some x→∀j y,(cellsE T e x)[j]?=some y→∃cv,at_ (i*szE T e+j)=some cv∧Rep T w S y cv
def Lows (T:Tbl) (b:Nat) (e:E) (xs:List (Den T.ST e)) (at_:Nat→Option Value):Prop:=
 ∀i x,xs[i]?=some x→∀j y,(cellsE T e x)[j]?=some y→∀cv,at_ (i*szE T e+j)=some cv→low T b y cv
theorem rep_lst {w:World} {S:E→Nat→Prop} {e:E} {xs:List (Den T.ST e)} {v:Value} (h:Rep T w S (.lst e xs) v):
  ∃A c,v=.slice A xs.length c∧xs.length≤c∧Room T w S e c A∧(xs≠[]→∃b o,A=some ⟨b,o,none⟩∧S e b∧Elems T w S e xs (fun k=>w.cell? ⟨b,o+k,none⟩)∧Lows T b e xs (fun k=>w.cell? ⟨b,o+k,none⟩)):=by
 obtain ⟨m,h⟩:=h
 cases m with
 | zero=>exact h.elim
 | succ m=>
  obtain ⟨A,c,h1,h2,h0,h3⟩:=h
  refine ⟨A,c,h1,h2,h0,fun hx=>?_⟩
  obtain ⟨b,o,ha,hs,hc⟩:=h3 hx
  refine ⟨b,o,ha,hs,fun i x hi j y hj=>?_,fun i x hi j y hj cv hcv=>?_⟩
  ·obtain ⟨cv,h4,h5,_⟩:=hc i x hi j y hj
   refine ⟨cv,?_,m,h5⟩
   show w.cell? ⟨b,o+(i*szE T e+j),none⟩=some cv
   rw [←Nat.add_assoc]
   exact h4
  ·obtain ⟨cv',h4,_,h6⟩:=hc i x hi j y hj
   have hcv:w.cell? ⟨b,o+(i*szE T e+j),none⟩=some cv:=hcv
   rw [←Nat.add_assoc,h4] at hcv
   rw [←Option.some.inj hcv]
   exact h6
theorem bound_all {P:Nat→Nat→Prop} (hm:∀i m m',m≤m'→P i m→P i m'):∀n,(∀i,i<n→∃m,P i m)→∃m,∀i,i<n→P i m:=by
 intro n
 induction n with
 | zero=>intro _;exact ⟨0,fun i hi=>absurd hi (by omega)⟩
 | succ n ih=>
  intro h
  obtain ⟨m1,h1⟩:=ih (fun i hi=>h i (by omega))
  obtain ⟨m2,h2⟩:=h n (by omega)
  refine ⟨max m1 m2,fun i hi=>?_⟩
  by_cases e:i=n
  ·subst e;exact hm _ _ _ (Nat.le_max_right _ _) h2
  ·exact hm _ _ _ (Nat.le_max_left _ _) (h1 i (by omega))
theorem rep_lst_mk {w:World} {S:E→Nat→Prop} {e:E} {xs:List (Den T.ST e)} {A:Option Addr} {c:Nat} (hc:xs.length≤c) (hr:Room T w S e c A)
  (h:xs≠[]→∃b o,A=some ⟨b,o,none⟩∧S e b∧Elems T w S e xs (fun k=>w.cell? ⟨b,o+k,none⟩)∧Lows T b e xs (fun k=>w.cell? ⟨b,o+k,none⟩)):Rep T w S (.lst e xs) (.slice A xs.length c):=by
 by_cases hx:xs=[]
 ·exact ⟨1,A,c,rfl,hc,hr,fun h'=>absurd hx h'⟩
 obtain ⟨b,o,ha,hs,he,hlw⟩:=h hx
 have key:∃m,∀i,i<xs.length→∀x,xs[i]?=some x→∀j y,(cellsE T e x)[j]?=some y→∃cv,w.cell? ⟨b,o+i*szE T e+j,none⟩=some cv∧RepD T w S m y cv:=by
  refine bound_all (P:=fun i m=>∀x,xs[i]?=some x→∀j y,(cellsE T e x)[j]?=some y→∃cv,w.cell? ⟨b,o+i*szE T e+j,none⟩=some cv∧RepD T w S m y cv) ?_ xs.length ?_
  ·intro i m m' hm h x hx j y hy
   obtain ⟨cv,h1,h2⟩:=h x hx j y hy
   exact ⟨cv,h1,h2.le hm⟩
  ·intro i hi
   have hx':xs[i]?=some xs[i]:=List.getElem?_eq_getElem hi
   obtain ⟨m,hm⟩:=bound_all (P:=fun j m=>∀y,(cellsE T e xs[i])[j]?=some y→∃cv,w.cell? ⟨b,o+i*szE T e+j,none⟩=some cv∧RepD T w S m y cv)
    (by intro j m m' hm h y hy;obtain ⟨cv,h1,h2⟩:=h y hy;exact ⟨cv,h1,h2.le hm⟩) (cellsE T e xs[i]).length (by
     intro j hj
     have hy':(cellsE T e xs[i])[j]?=some (cellsE T e xs[i])[j]:=List.getElem?_eq_getElem hj
     obtain ⟨cv,h1,m,h2⟩:=he i _ hx' j _ hy'
     refine ⟨m,fun y hy=>?_⟩
     rw [hy'] at hy
     obtain rfl:=Option.some.inj hy
     exact ⟨cv,by rw [Nat.add_assoc];exact h1,h2⟩)
   refine ⟨m,fun x hx j y hy=>?_⟩
   rw [hx'] at hx
   obtain rfl:=Option.some.inj hx
   have hj:j<(cellsE T e xs[i]).length:=by
    rcases Nat.lt_or_ge j (cellsE T e xs[i]).length with h | h
    ·exact h
    ·rw [List.getElem?_eq_none h] at hy;cases hy
   exact hm j hj y hy
 obtain ⟨m,hm⟩:=key
 refine ⟨m+1,A,c,rfl,hc,hr,fun _=>⟨b,o,ha,hs,fun i x hi j y hj=>?_⟩⟩
 have hi':i<xs.length:=by
  rcases Nat.lt_or_ge i xs.length with h | h
  ·exact h
  ·rw [List.getElem?_eq_none h] at hi;cases hi
 obtain ⟨cv,h1,h2⟩:=hm i hi' x hi j y hj
 exact ⟨cv,h1,h2,hlw i x hi j y hj cv (by show w.cell? ⟨b,o+(i*szE T e+j),none⟩=_;rw [←Nat.add_assoc];exact h1)⟩
def oneC:Value→Bool | .agg _=>false | .tuple _=>false | _=>true
theorem Rep.one {w:World} {S:E→Nat→Prop} {d:Dyn T.ST} {v:Value} (h:Rep T w S d v):oneC v=true:=by
 cases d with
 | int k n=>rw [rep_int.1 h];rfl
 | bool b=>rw [rep_bool.1 h];rfl
 | str s=>rw [rep_str.1 h];rfl
 | lst e xs=>obtain ⟨A,c,rfl,_⟩:=rep_lst h;rfl
 | nil=>obtain ⟨A,rfl⟩:=rep_nil.1 h;rfl
structure Env (T:Tbl) where
 w:World
 S:E→Nat→Prop
 η:Nat→Nat
 κ:Nat→Nat
 H:Nat→Slot T
def hdr (A:Option Addr) (n c b:Nat) (v:Value):Prop:=v=.slice A n c∧(c≠0→A=some ⟨b,0,none⟩)
mutual
def RepF (E:Env T):FV T→Value→Prop
 | .d x,v=>Rep T E.w E.S x v
 | .lit b,v=>v=.bool b
 | .prp p i,v=>v=.bool (@decide p i)
 | .agg cs,v=>∃vs:List Value,v=.agg vs.toArray∧RepL E cs vs
 | .tup cs,v=>∃vs:List Value,v=.tuple vs.toArray∧RepL E cs vs
 | .own id g,v=>(g≤(E.H id).g∧oneC v=true)∧(g=(E.H id).g→∃e xs,((E.H id).c=.row e xs∨(E.H id).c=.frz e xs)∧∃A,hdr A xs.length (E.κ id) (E.η id) v)
 | .oel id g i off,v=>(g≤(E.H id).g∧oneC v=true)∧(g=(E.H id).g→∃e xs,((E.H id).c=.row e xs∨(E.H id).c=.frz e xs)∧0≤i∧i.toNat<xs.length∧v=.pointer (some ⟨E.η id,i.toNat*szE T e+off,none⟩))
 | .ptr id g off,v=>(g≤(E.H id).g∧oneC v=true)∧(g=(E.H id).g→∃cs,(E.H id).c=.box cs∧v=.pointer (some ⟨E.η id,off,none⟩))
 | .elp e xs i off,v=>∃b o,v=.pointer (some ⟨b,o+off,none⟩)∧(E.S e b∧Plain T E.w e b∧LowAt T E.w e b o (rdE T e xs i))∧0≤i∧i.toNat<xs.length∧∀j y,(cellsE T e (rdE T e xs i))[j]?=some y→∃cv,E.w.cell? ⟨b,o+j,none⟩=some cv∧Rep T E.w E.S y cv
 | .clo f cs,v=>∃vs:List Value,v=.func (.func f) #[] vs.toArray∧RepL E cs vs
 | .nil,v=>∃A,v=.slice A 0 0
 | .non,_=>True
def RepL (E:Env T):List (FV T)→List Value→Prop
 | [],vs=>vs=[]
 | c::cs,vs=>∃v r,vs=v::r∧RepF E c v∧RepL E cs r
end
theorem RepL.length {E:Env T}:∀{cs:List (FV T)} {vs:List Value},RepL E cs vs→vs.length=cs.length:=by
 intro cs
 induction cs with
 | nil=>intro vs h;rw [RepL] at h;subst h;rfl
 | cons c cs ih=>
  intro vs h
  rw [RepL] at h
  obtain ⟨v,r,rfl,_,h2⟩:=h
  rw [List.length_cons,List.length_cons,ih h2]
theorem RepL.get {E:Env T}:∀{cs:List (FV T)} {vs:List Value},RepL E cs vs→∀(i:Nat) c,cs[i]?=some c→∃v,vs[i]?=some v∧RepF E c v:=by
 intro cs
 induction cs with
 | nil=>intro vs _ i c h;exact absurd h (by simp)
 | cons c cs ih=>
  intro vs h i x hx
  rw [RepL] at h
  obtain ⟨v,r,rfl,h1,h2⟩:=h
  cases i with
  | zero=>simp at hx;subst hx;exact ⟨v,rfl,h1⟩
  | succ i=>exact ih h2 i x (by simpa using hx)
theorem RepL.mk {E:Env T}:∀{cs:List (FV T)} {vs:List Value},vs.length=cs.length→(∀(i:Nat) c v,cs[i]?=some c→vs[i]?=some v→RepF E c v)→RepL E cs vs:=by
 intro cs
 induction cs with
 | nil=>intro vs h _;rw [RepL];exact List.length_eq_zero_iff.1 h
 | cons c cs ih=>
  intro vs hl h
  cases vs with
  | nil=>simp at hl
  | cons v r=>
   rw [RepL]
   exact ⟨v,r,rfl,h 0 c v rfl rfl,ih (by simpa using hl) fun i c' v' h1 h2=>h (i+1) c' v' (by simpa using h1) (by simpa using h2)⟩
def Shape:Cont T→Cont T→Prop
 | .none,_=>True
 | .box cs,c=>∃cs',c=.box cs'
 | .row e xs,c=>∃xs',xs'.length=xs.length∧(c=.row e xs'∨c=.frz e xs')
 | .frz e xs,c=>∃xs',xs'.length=xs.length∧c=.frz e xs'
structure EnvLe (E E':Env T):Prop where
 sz:E.w.heap.size≤E'.w.heap.size
 bl:∀e b,E.S e b→E'.S e b∧E'.w.heap[b]?=E.w.heap[b]?
 gen:∀id,(E.H id).g≤(E'.H id).g
 same:∀id,(E.H id).g=(E'.H id).g→(E.H id).c≠.none→Shape (E.H id).c (E'.H id).c∧E.η id=E'.η id∧E.κ id=E'.κ id
theorem EnvLe.refl (E:Env T):EnvLe E E:=⟨Nat.le_refl _,fun _ _ h=>⟨h,rfl⟩,fun _=>Nat.le_refl _,fun id _ _=>⟨by
 cases (E.H id).c with
 | none=>trivial
 | box cs=>exact ⟨cs,rfl⟩
 | row e xs=>exact ⟨xs,rfl,.inl rfl⟩
 | frz e xs=>exact ⟨xs,rfl,rfl⟩,rfl,rfl⟩⟩
theorem Shape.trans {a b c:Cont T} (h:Shape a b) (k:Shape b c):Shape a c:=by
 cases a with
 | none=>trivial
 | box cs=>obtain ⟨cs',rfl⟩:=h;exact k
 | row e xs=>
  obtain ⟨xs',hl,rfl | rfl⟩:=h
  ·obtain ⟨ys,hy,h2⟩:=k;exact ⟨ys,hy.trans hl,h2⟩
  ·obtain ⟨ys,hy,h2⟩:=k;exact ⟨ys,hy.trans hl,.inr h2⟩
 | frz e xs=>
  obtain ⟨xs',hl,rfl⟩:=h
  obtain ⟨ys,hy,h2⟩:=k
  exact ⟨ys,hy.trans hl,h2⟩
theorem EnvLe.trans {E E' E'':Env T} (h:EnvLe E E') (k:EnvLe E' E''):EnvLe E E'' where
 sz:=Nat.le_trans h.sz k.sz
 bl:=fun e b hb=>⟨(k.bl e b (h.bl e b hb).1).1,((k.bl e b (h.bl e b hb).1).2).trans (h.bl e b hb).2⟩
 gen:=fun id=>Nat.le_trans (h.gen id) (k.gen id)
 same:=fun id hg hc=>by
  have g1:=h.gen id
  have g2:=k.gen id
  have e1:(E.H id).g=(E'.H id).g:=by omega
  obtain ⟨s1,a1,b1⟩:=h.same id e1 hc
  have hn:(E'.H id).c≠.none:=by
   intro e
   rw [e] at s1
   cases hE:(E.H id).c with
   | none=>exact hc hE
   | box cs=>rw [hE] at s1;obtain ⟨_,h⟩:=s1;cases h
   | row e xs=>rw [hE] at s1;obtain ⟨_,_,h | h⟩:=s1 <;> cases h
   | frz e xs=>rw [hE] at s1;obtain ⟨_,_,h⟩:=s1;cases h
  obtain ⟨s2,a2,b2⟩:=k.same id (by omega) hn
  exact ⟨s1.trans s2,a1.trans a2,b1.trans b2⟩
mutual
theorem RepF.mono {E E':Env T} (h:EnvLe E E'):∀(c:FV T) (v:Value),RepF E c v→RepF E' c v
 | .d x,v,k=>by rw [RepF] at k⊢;exact k.mono h.bl
 | .lit b,v,k=>by rw [RepF] at k⊢;exact k
 | .prp p i,v,k=>by rw [RepF] at k⊢;exact k
 | .agg cs,v,k=>by rw [RepF] at k⊢;obtain ⟨vs,h1,h2⟩:=k;exact ⟨vs,h1,RepL.mono h cs vs h2⟩
 | .tup cs,v,k=>by rw [RepF] at k⊢;obtain ⟨vs,h1,h2⟩:=k;exact ⟨vs,h1,RepL.mono h cs vs h2⟩
 | .own id g,v,k=>by
  rw [RepF] at k⊢
  obtain ⟨k1,k2⟩:=k
  refine ⟨⟨Nat.le_trans k1.1 (h.gen id),k1.2⟩,fun hg=>?_⟩
  have h1:=h.gen id
  have k0:=k1.1
  obtain ⟨e,xs,hc,A,hd⟩:=k2 (by omega)
  obtain ⟨s,a,b⟩:=h.same id (by omega) (by rcases hc with hc | hc <;> rw [hc] <;> nofun)
  rcases hc with hc | hc
  ·rw [hc] at s
   obtain ⟨xs',hl,hx⟩:=s
   exact ⟨e,xs',hx,A,by rw [hl,←a,←b];exact hd⟩
  ·rw [hc] at s
   obtain ⟨xs',hl,hx⟩:=s
   exact ⟨e,xs',.inr hx,A,by rw [hl,←a,←b];exact hd⟩
 | .oel id g i off,v,k=>by
  rw [RepF] at k⊢
  obtain ⟨k1,k2⟩:=k
  refine ⟨⟨Nat.le_trans k1.1 (h.gen id),k1.2⟩,fun hg=>?_⟩
  have h1:=h.gen id
  have k0:=k1.1
  obtain ⟨e,xs,hc,i0,i1,hd⟩:=k2 (by omega)
  obtain ⟨s,a,b⟩:=h.same id (by omega) (by rcases hc with hc | hc <;> rw [hc] <;> nofun)
  rcases hc with hc | hc
  ·rw [hc] at s
   obtain ⟨xs',hl,hx⟩:=s
   exact ⟨e,xs',hx,i0,by omega,by rw [←a];exact hd⟩
  ·rw [hc] at s
   obtain ⟨xs',hl,hx⟩:=s
   exact ⟨e,xs',.inr hx,i0,by omega,by rw [←a];exact hd⟩
 | .ptr id g off,v,k=>by
  rw [RepF] at k⊢
  obtain ⟨k1,k2⟩:=k
  refine ⟨⟨Nat.le_trans k1.1 (h.gen id),k1.2⟩,fun hg=>?_⟩
  have h1:=h.gen id
  have k0:=k1.1
  obtain ⟨cs,hc,hd⟩:=k2 (by omega)
  obtain ⟨s,a,b⟩:=h.same id (by omega) (by rw [hc];nofun)
  rw [hc] at s
  obtain ⟨cs',hx⟩:=s
  exact ⟨cs',hx,by rw [←a];exact hd⟩
 | .elp e xs i off,v,k=>by
  rw [RepF] at k⊢
  obtain ⟨b,o,h1,h2,i0,i1,h3⟩:=k
  refine ⟨b,o,h1,⟨(h.bl e b h2.1).1,fun hs=>by rw [(h.bl e b h2.1).2];exact h2.2.1 hs,fun j y hj cv hcv=>h2.2.2 j y hj cv (by rw [←hcv];simp only [World.cell?];rw [(h.bl e b h2.1).2])⟩,i0,i1,fun j y hj=>?_⟩
  obtain ⟨cv,h4,h5⟩:=h3 j y hj
  refine ⟨cv,?_,h5.mono h.bl⟩
  rw [←h4]
  simp only [World.cell?]
  rw [(h.bl e b h2.1).2]
 | .clo f cs,v,k=>by rw [RepF] at k⊢;obtain ⟨vs,h1,h2⟩:=k;exact ⟨vs,h1,RepL.mono h cs vs h2⟩
 | .nil,v,k=>by rw [RepF] at k⊢;exact k
 | .non,v,_=>by rw [RepF];trivial
theorem RepL.mono {E E':Env T} (h:EnvLe E E'):∀(cs:List (FV T)) (vs:List Value),RepL E cs vs→RepL E' cs vs
 | [],vs,k=>by rw [RepL] at k⊢;exact k
 | c::cs,vs,k=>by
  rw [RepL] at k⊢
  obtain ⟨v,r,h1,h2,h3⟩:=k
  exact ⟨v,r,h1,RepF.mono h c v h2,RepL.mono h cs r h3⟩
end
end
end Go.Proofs.YtggmgmkhohmfiaaGreat.PE
namespace Go.Proofs.YtggmgmkhohmfiaaGreat.PE
noncomputable section
set_option linter.unusedVariables false
open Go Go.RowKit
variable {T:Tbl} {R:Type}
theorem upd_same {α:Type _} (f:Nat→α) (i:Nat) (v:α):upd f i v i=v:=by simp [upd]
theorem upd_other {α:Type _} (f:Nat→α) {i j:Nat} (v:α) (h:j≠i):upd f i v j=f j:=by
 unfold upd
 rw [show Nat.beq j i=false from by rw [Bool.eq_false_iff];intro e;exact h (Nat.eq_of_beq_eq_true e)]
def SlotOk (E:Env T) (id:Nat):Prop:=match (E.H id).c with
 | .none=>True
 | .box cs=>(∀c∈cs,cellOk c=true)∧∃arr t,E.w.heap[E.η id]?=some (.cells arr t (0,0))∧RepL E cs arr.toList
 | .row e xs=>xs.length≤E.κ id∧(E.κ id≠0→∃arr t,E.w.heap[E.η id]?=some (.cells arr t (0,0))∧arr.size=E.κ id*szE T e∧(T.str e=true→Kinds T e (E.κ id) (fun k=>arr[k]?))∧Elems T E.w E.S e xs (fun k=>arr[k]?))
 | .frz e xs=>∀A:Option Addr,(E.κ id≠0→A=some ⟨E.η id,0,none⟩)→Rep T E.w E.S (.lst e xs) (.slice A xs.length (E.κ id))
def Has (E:Env T) (id:Nat):Prop:=(∃cs,(E.H id).c=.box cs)∨(∃e xs,(E.H id).c=.row e xs∧E.κ id≠0)
structure InvE (B:Base) (E:Env T):Prop where
 slot:∀id,SlotOk E id
 own:∀id,Has E id→(∀e,¬E.S e (E.η id))∧E.η id<E.w.heap.size∧(B.w0.heap.size≤E.η id∨B.M0 (E.η id))
 inj:∀i j,Has E i→Has E j→E.η i=E.η j→i=j
 rowl:∀id e xs,(E.H id).c=.row e xs→E.κ id≠0→B.w0.heap.size≤E.η id∨B.M0 (E.η id)
 slt:∀e b,E.S e b→b<E.w.heap.size
 s0:∀e b,B.S0 e b→E.S e b
 s1:∀e b,E.S e b→b<B.w0.heap.size→B.S0 e b∨B.M0 b
 os:E.w.os=B.w0.os
 tape:E.w.tape=B.w0.tape
 output:E.w.output=B.w0.output
 size:B.w0.heap.size≤E.w.heap.size
 blk:∀k,k<B.w0.heap.size→¬B.M0 k→E.w.heap[k]?=B.w0.heap[k]?
 fxd:∀id cs,HB≤id→(E.H id).c=.box cs→E.η id=B.fx id
 cap:∀id e xs,(E.H id).c=.row e xs→E.κ id≤maxLen∧(HR≤id→E.η id=B.fx id∧E.κ id=B.kx id∧xs.length=B.lx id)
theorem Elems.mono {w w':World} {S S':E→Nat→Prop} {e:E} {xs:List (Den T.ST e)} {f:Nat→Option Value} (h:Elems T w S e xs f) (hS:∀e b,S e b→S' e b∧w'.heap[b]?=w.heap[b]?):Elems T w' S' e xs f:=
 fun i x hi j y hj=>let ⟨cv,h1,h2⟩:=h i x hi j y hj;⟨cv,h1,h2.mono hS⟩
theorem slot_mono {E E':Env T} (h:EnvLe E E') {id:Nat} (h1:E'.H id=E.H id) (h2:E'.η id=E.η id) (h3:E'.κ id=E.κ id)
  (h4:Has E id→E'.w.heap[E.η id]?=E.w.heap[E.η id]?) (k:SlotOk E id):SlotOk E' id:=by
 unfold SlotOk at k⊢
 rw [h1,h2,h3]
 cases hc:(E.H id).c with
 | none=>trivial
 | box cs=>
  rw [hc] at k
  obtain ⟨k1,arr,t,k2,k3⟩:=k
  exact ⟨k1,arr,t,(h4 (.inl ⟨cs,hc⟩)).trans k2,RepL.mono h _ _ k3⟩
 | row e xs=>
  rw [hc] at k
  obtain ⟨k1,k2⟩:=k
  refine ⟨k1,fun hk=>?_⟩
  obtain ⟨arr,t,k3,k4,k6,k5⟩:=k2 hk
  exact ⟨arr,t,(h4 (.inr ⟨e,xs,hc,hk⟩)).trans k3,k4,k6,k5.mono h.bl⟩
 | frz e xs=>
  rw [hc] at k
  exact fun A hA=>(k A hA).mono h.bl
theorem has_same {E E':Env T} {id:Nat} (h:Has E' id) (h1:E'.H id=E.H id) (h3:E'.κ id=E.κ id):Has E id:=by
 unfold Has at h⊢
 rw [h1,h3] at h
 exact h
theorem le_alloc {E:Env T} {d g:Nat} {c:Cont T} (arr:Array Value) (t:TypeId) (κd:Nat) (hg:((E.H d).g=g∧(E.H d).c=.none)∨(E.H d).g<g) (hS:∀e b,E.S e b→b<E.w.heap.size) (W:World) (hW:W.heap=E.w.heap):
  EnvLe E ⟨W.alloc (.cells arr t),E.S,upd E.η d E.w.heap.size,upd E.κ d κd,upd E.H d ⟨g,c⟩⟩ where
 sz:=by show E.w.heap.size≤(W.alloc _).heap.size;rw [World.size_alloc,hW];omega
 bl:=fun e b hb=>⟨hb,by show (W.heap.push _)[b]?=_;rw [hW,Array.getElem?_push,if_neg (by have:=hS e b hb;omega)]⟩
 gen:=fun id=>by
  show (E.H id).g≤(upd E.H d ⟨g,c⟩ id).g
  by_cases e:id=d
  ·subst e;rw [upd_same];rcases hg with ⟨h,_⟩ | h
   ·exact Nat.le_of_eq h
   ·exact Nat.le_of_lt h
  ·rw [upd_other _ _ e];exact Nat.le_refl _
 same:=fun id hgen hc=>by
  by_cases e:id=d
  ·subst e
   exfalso
   have h2:(E.H id).g=g:=by have h3:(E.H id).g=(upd E.H id ⟨g,c⟩ id).g:=hgen;rw [upd_same] at h3;exact h3
   rcases hg with ⟨_,h⟩ | h
   ·exact hc h
   ·omega
  ·have h1:upd E.H d ⟨g,c⟩ id=E.H id:=upd_other _ _ e
   refine ⟨?_,?_,?_⟩
   ·show Shape (E.H id).c (upd E.H d ⟨g,c⟩ id).c
    rw [h1]
    exact ((EnvLe.refl E).same id rfl hc).1
   ·exact (upd_other E.η _ e).symm
   ·exact (upd_other E.κ _ e).symm
theorem inv_alloc {B:Base} {E:Env T} (I:InvE B E) {d g:Nat} {c:Cont T} (arr:Array Value) (t:TypeId) (κd:Nat) (hg:((E.H d).g=g∧(E.H d).c=.none)∨(E.H d).g<g) (hfx:d<HB∨∀cs,c≠.box cs) (hcp:(∃e xs,c=.row e xs)→κd≤maxLen∧d<HR)
  (W:World) (hW:W.heap=E.w.heap) (ho:W.os=E.w.os) (ht:W.tape=E.w.tape) (hu:W.output=E.w.output)
  (hs:SlotOk ⟨W.alloc (.cells arr t),E.S,upd E.η d E.w.heap.size,upd E.κ d κd,upd E.H d ⟨g,c⟩⟩ d):
  InvE B ⟨W.alloc (.cells arr t),E.S,upd E.η d E.w.heap.size,upd E.κ d κd,upd E.H d ⟨g,c⟩⟩:=by
 have hle:=le_alloc (c:=c) arr t κd hg I.slt W hW
 have hold:∀k,k<E.w.heap.size→(W.alloc (.cells arr t)).heap[k]?=E.w.heap[k]?:=fun k hk=>by
  show (W.heap.push _)[k]?=_
  rw [hW,Array.getElem?_push,if_neg (by omega)]
 have hsz:(W.alloc (.cells arr t)).heap.size=E.w.heap.size+1:=by rw [World.size_alloc,hW]
 refine ⟨?_,?_,?_,?_,?_,I.s0,I.s1,ho.trans I.os,ht.trans I.tape,hu.trans I.output,?_,?_,?_,?_⟩
 ·intro id
  by_cases e:id=d
  ·subst e;exact hs
  ·exact slot_mono hle (upd_other _ _ e) (upd_other _ _ e) (upd_other _ _ e) (fun h=>hold _ (I.own id h).2.1) (I.slot id)
 ·intro id h
  by_cases e:id=d
  ·subst e
   show (∀e,¬E.S e (upd E.η id _ id))∧upd E.η id _ id<_∧(_≤upd E.η id _ id∨B.M0 (upd E.η id _ id))
   rw [upd_same]
   exact ⟨fun _ h=>absurd (I.slt _ _ h) (Nat.lt_irrefl _),by rw [hsz];omega,.inl I.size⟩
  ·show (∀e,¬E.S e (upd E.η d _ id))∧upd E.η d _ id<_∧(_≤upd E.η d _ id∨B.M0 (upd E.η d _ id))
   rw [upd_other _ _ e]
   have:=I.own id (has_same (E:=E) h (upd_other _ _ e) (upd_other _ _ e))
   exact ⟨this.1,by rw [hsz];omega,this.2.2⟩
 ·intro i j hi hj he
  have he':upd E.η d E.w.heap.size i=upd E.η d E.w.heap.size j:=he
  by_cases ei:i=d
  ·by_cases ej:j=d
   ·rw [ei,ej]
   ·rw [ei,upd_same,upd_other _ _ ej] at he'
    have:=(I.own j (has_same (E:=E) hj (upd_other _ _ ej) (upd_other _ _ ej))).2.1
    omega
  ·by_cases ej:j=d
   ·rw [ej,upd_same,upd_other _ _ ei] at he'
    have:=(I.own i (has_same (E:=E) hi (upd_other _ _ ei) (upd_other _ _ ei))).2.1
    omega
   ·rw [upd_other _ _ ei,upd_other _ _ ej] at he'
    exact I.inj i j (has_same (E:=E) hi (upd_other _ _ ei) (upd_other _ _ ei)) (has_same (E:=E) hj (upd_other _ _ ej) (upd_other _ _ ej)) he'
 ·intro id e1 x1 h1 h2
  by_cases e:id=d
  ·subst e
   show _≤upd E.η id _ id∨B.M0 (upd E.η id _ id)
   rw [upd_same];exact .inl I.size
  ·show _≤upd E.η d _ id∨B.M0 (upd E.η d _ id)
   rw [upd_other _ _ e]
   have h1':(upd E.H d (⟨g,c⟩:Slot T) id).c=.row e1 x1:=h1
   have h2':upd E.κ d κd id≠0:=h2
   rw [upd_other _ _ e] at h1' h2'
   exact I.rowl id e1 x1 h1' h2'
 ·intro e b hb
  have:=I.slt e b hb
  show b<(W.alloc (.cells arr t)).heap.size
  omega
 ·have:=I.size
  show _≤(W.alloc (.cells arr t)).heap.size
  omega
 ·intro k hk hm
  exact (hold k (Nat.lt_of_lt_of_le hk I.size)).trans (I.blk k hk hm)
 ·intro id cs hid hcs
  by_cases e:id=d
  ·subst e
   have hcs':(upd E.H id (⟨g,c⟩:Slot T) id).c=.box cs:=hcs
   rw [upd_same] at hcs'
   rcases hfx with h | h
   ·exact absurd hid (Nat.not_le.2 h)
   ·exact absurd hcs' (h cs)
  ·have hcs':(upd E.H d (⟨g,c⟩:Slot T) id).c=.box cs:=hcs
   rw [upd_other _ _ e] at hcs'
   show upd E.η d _ id=_
   rw [upd_other _ _ e]
   exact I.fxd id cs hid hcs'
 ·intro id e1 x1 h1
  by_cases e:id=d
  ·subst e
   have h1':(upd E.H id (⟨g,c⟩:Slot T) id).c=.row e1 x1:=h1
   rw [upd_same] at h1'
   refine ⟨?_,fun h=>absurd h (Nat.not_le.2 (hcp ⟨e1,x1,h1'⟩).2)⟩
   show upd E.κ id κd id≤_
   rw [upd_same];exact (hcp ⟨e1,x1,h1'⟩).1
  ·have h1':(upd E.H d (⟨g,c⟩:Slot T) id).c=.row e1 x1:=h1
   rw [upd_other _ _ e] at h1'
   show upd E.κ d κd id≤_∧(HR≤id→upd E.η d E.w.heap.size id=_∧upd E.κ d κd id=_∧_)
   rw [upd_other _ _ e,upd_other _ _ e]
   exact I.cap id e1 x1 h1'
theorem le_set {E:Env T} {d:Nat} {c:Cont T} (W:World) (hsz:W.heap.size=E.w.heap.size) (hd:∀e,¬E.S e (E.η d)) (hW:∀k,k≠E.η d→W.heap[k]?=E.w.heap[k]?) (hc:Shape (E.H d).c c):
  EnvLe E ⟨W,E.S,E.η,E.κ,upd E.H d ⟨(E.H d).g,c⟩⟩ where
 sz:=Nat.le_of_eq hsz.symm
 bl:=fun e b hb=>⟨hb,hW b (fun h=>hd e (h▸hb))⟩
 gen:=fun id=>by
  show (E.H id).g≤(upd E.H d ⟨(E.H d).g,c⟩ id).g
  by_cases e:id=d
  ·subst e;rw [upd_same];exact Nat.le_refl _
  ·rw [upd_other _ _ e];exact Nat.le_refl _
 same:=fun id _ hn=>by
  refine ⟨?_,rfl,rfl⟩
  show Shape (E.H id).c (upd E.H d ⟨(E.H d).g,c⟩ id).c
  by_cases e:id=d
  ·subst e;rw [upd_same];exact hc
  ·rw [upd_other _ _ e];exact ((EnvLe.refl E).same id rfl hn).1
theorem inv_set {B:Base} {E:Env T} (I:InvE B E) {d:Nat} {c:Cont T} (W:World) (hsz:W.heap.size=E.w.heap.size) (hh:Has E d) (hW:∀k,k≠E.η d→W.heap[k]?=E.w.heap[k]?) (hc:Shape (E.H d).c c)
  (ho:W.os=E.w.os) (ht:W.tape=E.w.tape) (hu:W.output=E.w.output) (hs:SlotOk ⟨W,E.S,E.η,E.κ,upd E.H d ⟨(E.H d).g,c⟩⟩ d):InvE B ⟨W,E.S,E.η,E.κ,upd E.H d ⟨(E.H d).g,c⟩⟩:=by
 have hd:=(I.own d hh)
 have hle:=le_set (c:=c) W hsz hd.1 hW hc
 have hHas:∀id,Has (⟨W,E.S,E.η,E.κ,upd E.H d ⟨(E.H d).g,c⟩⟩:Env T) id→Has E id:=by
  intro id h
  by_cases e:id=d
  ·rw [e];exact hh
  ·exact has_same (E:=E) h (upd_other _ _ e) rfl
 refine ⟨?_,?_,?_,?_,?_,I.s0,I.s1,ho.trans I.os,ht.trans I.tape,hu.trans I.output,?_,?_,?_,?_⟩
 ·intro id
  by_cases e:id=d
  ·subst e;exact hs
  ·exact slot_mono hle (upd_other _ _ e) rfl rfl (fun h=>hW _ (fun e'=>e (I.inj id d h hh e'))) (I.slot id)
 ·intro id h
  have:=I.own id (hHas id h)
  exact ⟨this.1,by show _<W.heap.size;rw [hsz];exact this.2.1,this.2.2⟩
 ·intro i j hi hj he
  exact I.inj i j (hHas i hi) (hHas j hj) he
 ·intro id e1 x1 h1 h2
  by_cases e:id=d
  ·subst e
   have h1':(upd E.H id (⟨(E.H id).g,c⟩:Slot T) id).c=.row e1 x1:=h1
   rw [upd_same] at h1'
   rcases hh with ⟨cs,hcs⟩ | ⟨e2,x2,hcs,hk⟩
   ·rw [hcs] at hc
    obtain ⟨cs',hc'⟩:=hc
    rw [hc'] at h1';cases h1'
   ·exact I.rowl id e2 x2 hcs hk
  ·have h1':(upd E.H d (⟨(E.H d).g,c⟩:Slot T) id).c=.row e1 x1:=h1
   rw [upd_other _ _ e] at h1'
   exact I.rowl id e1 x1 h1' h2
 ·intro e b hb
  show b<W.heap.size
  rw [hsz];exact I.slt e b hb
 ·show _≤W.heap.size
  rw [hsz];exact I.size
 ·intro k hk hm
  refine (hW k ?_).trans (I.blk k hk hm)
  intro e
  rcases hd.2.2 with h | h
  ·omega
  ·exact hm (e▸h)
 ·intro id cs hid hcs
  by_cases e:id=d
  ·subst e
   have hcs':(upd E.H id (⟨(E.H id).g,c⟩:Slot T) id).c=.box cs:=hcs
   rw [upd_same] at hcs'
   rcases hh with ⟨cs0,h0⟩ | ⟨e2,x2,h0,_⟩
   ·exact I.fxd id cs0 hid h0
   ·have hcs2:c=.box cs:=hcs'
    rw [h0,hcs2] at hc
    obtain ⟨_,_,h | h⟩:=hc <;> cases h
  ·have hcs':(upd E.H d (⟨(E.H d).g,c⟩:Slot T) id).c=.box cs:=hcs
   rw [upd_other _ _ e] at hcs'
   exact I.fxd id cs hid hcs'
 ·intro id e1 x1 h1
  by_cases e:id=d
  ·subst e
   have h1':(upd E.H id (⟨(E.H id).g,c⟩:Slot T) id).c=.row e1 x1:=h1
   rw [upd_same] at h1'
   have h2:c=.row e1 x1:=h1'
   rcases hh with ⟨cs0,h0⟩ | ⟨e2,x2,h0,_⟩
   ·rw [h0,h2] at hc
    obtain ⟨_,h⟩:=hc;cases h
   ·have hlen:x1.length=x2.length:=by
     rw [h0,h2] at hc
     obtain ⟨x',hl,h | h⟩:=hc
     ·obtain ⟨rfl,h'⟩:=Cont.row.inj h
      obtain rfl:=eq_of_heq h'
      exact hl
     ·cases h
    have hcp:=I.cap id e2 x2 h0
    exact ⟨hcp.1,fun h=>⟨(hcp.2 h).1,(hcp.2 h).2.1,hlen.trans (hcp.2 h).2.2⟩⟩
  ·have h1':(upd E.H d (⟨(E.H d).g,c⟩:Slot T) id).c=.row e1 x1:=h1
   rw [upd_other _ _ e] at h1'
   exact I.cap id e1 x1 h1'
theorem inv_world {B:Base} {E:Env T} (I:InvE B E) (W:World) (hW:W.heap=E.w.heap) (ho:W.os=E.w.os) (ht:W.tape=E.w.tape) (hu:W.output=E.w.output):EnvLe E ⟨W,E.S,E.η,E.κ,E.H⟩∧InvE B ⟨W,E.S,E.η,E.κ,E.H⟩:=by
 have hle:EnvLe E ⟨W,E.S,E.η,E.κ,E.H⟩:=⟨by show _≤W.heap.size;rw [hW];exact Nat.le_refl _,fun _ b hb=>⟨hb,by show W.heap[b]?=_;rw [hW]⟩,fun _=>Nat.le_refl _,fun id _ hn=>⟨((EnvLe.refl E).same id rfl hn).1,rfl,rfl⟩⟩
 refine ⟨hle,?_,?_,I.inj,I.rowl,?_,I.s0,I.s1,ho.trans I.os,ht.trans I.tape,hu.trans I.output,?_,?_,I.fxd,I.cap⟩
 ·intro id;exact slot_mono hle rfl rfl rfl (fun _=>by show W.heap[_]?=_;rw [hW]) (I.slot id)
 ·intro id h;have:=I.own id h;exact ⟨this.1,by show _<W.heap.size;rw [hW];exact this.2.1,this.2.2⟩
 ·intro e b hb;show b<W.heap.size;rw [hW];exact I.slt e b hb
 ·show _≤W.heap.size;rw [hW];exact I.size
 ·intro k hk hm;show W.heap[k]?=_;rw [hW];exact I.blk k hk hm
theorem low_own {w:World} {S:E→Nat→Prop} {b:Nat} (hb:∀e,¬S e b) {y:Dyn T.ST} {cv:Value} (h2:Rep T w S y cv):low T b y cv:=by
 cases y with
 | lst e' ys=>
  intro hst A n c hv hc
  obtain ⟨A',c',h3,_,h4,_⟩:=rep_lst h2
  rw [hv] at h3
  injection h3 with q1 q2 q3
  subst q1;subst q3
  obtain ⟨b',o,h5,h6,_⟩:=h4 hst hc
  exact ⟨b',o,h5,fun e=>hb e' (e▸h6)⟩
 | _=>trivial
theorem lows_own {w:World} {S:E→Nat→Prop} {b:Nat} (hb:∀e,¬S e b) {e:Ty} {xs:List (Den T.ST e)} {f:Nat→Option Value} (h:Elems T w S e xs f):Lows T b e xs f:=by
 intro i x hi j y hj cv hcv
 obtain ⟨cv',h1,h2⟩:=h i x hi j y hj
 rw [hcv] at h1
 obtain rfl:=Option.some.inj h1
 exact low_own hb h2
theorem inv_frz {B:Base} {E:Env T} (I:InvE B E) {d:Nat} {e:Ty} {xs:List (Den T.ST e)} (hc:(E.H d).c=.row e xs):
  EnvLe E ⟨E.w,fun e' b=>E.S e' b∨(E.κ d≠0∧e'=e∧b=E.η d),E.η,E.κ,upd E.H d ⟨(E.H d).g,.frz e xs⟩⟩∧InvE B ⟨E.w,fun e' b=>E.S e' b∨(E.κ d≠0∧e'=e∧b=E.η d),E.η,E.κ,upd E.H d ⟨(E.H d).g,.frz e xs⟩⟩:=by
 have hle:EnvLe E ⟨E.w,fun e' b=>E.S e' b∨(E.κ d≠0∧e'=e∧b=E.η d),E.η,E.κ,upd E.H d ⟨(E.H d).g,.frz e xs⟩⟩:=by
  refine ⟨Nat.le_refl _,fun _ b hb=>⟨.inl hb,rfl⟩,fun id=>?_,fun id _ hn=>⟨?_,rfl,rfl⟩⟩
  ·show (E.H id).g≤(upd E.H d _ id).g
   by_cases e':id=d
   ·subst e';rw [upd_same];exact Nat.le_refl _
   ·rw [upd_other _ _ e'];exact Nat.le_refl _
  ·show Shape (E.H id).c (upd E.H d _ id).c
   by_cases e':id=d
   ·subst e';rw [upd_same,hc];exact ⟨xs,rfl,.inr rfl⟩
   ·rw [upd_other _ _ e'];exact ((EnvLe.refl E).same id rfl hn).1
 have hHas:∀id,Has (⟨E.w,fun e' b=>E.S e' b∨(E.κ d≠0∧e'=e∧b=E.η d),E.η,E.κ,upd E.H d ⟨(E.H d).g,.frz e xs⟩⟩:Env T) id→Has E id∧id≠d:=by
  intro id h
  by_cases e':id=d
  ·subst e'
   exfalso
   unfold Has at h
   rcases h with ⟨cs,h⟩ | ⟨e1,x1,h,_⟩
   ·have h':(upd E.H id (⟨(E.H id).g,.frz e xs⟩:Slot T) id).c=.box cs:=h
    rw [upd_same] at h';cases h'
   ·have h':(upd E.H id (⟨(E.H id).g,.frz e xs⟩:Slot T) id).c=.row e1 x1:=h
    rw [upd_same] at h';cases h'
  ·exact ⟨has_same (E:=E) h (upd_other _ _ e') rfl,e'⟩
 have hsl:=I.slot d
 unfold SlotOk at hsl
 rw [hc] at hsl
 obtain ⟨hl,hr⟩:=hsl
 refine ⟨hle,?_,?_,?_,?_,?_,fun e b hb=>.inl (I.s0 e b hb),?_,I.os,I.tape,I.output,I.size,I.blk,?_,?_⟩
 ·intro id
  by_cases e':id=d
  ·subst e'
   unfold SlotOk
   show match (upd E.H id (⟨(E.H id).g,.frz e xs⟩:Slot T) id).c with | .none=>_ | .box cs=>_ | .row e xs=>_ | .frz e xs=>_
   rw [upd_same]
   intro A hA
   refine rep_lst_mk hl (fun hst hk=>?_) fun hx=>?_
   ·obtain ⟨arr,t,h1,h2,h6,h3⟩:=hr hk
    refine ⟨E.η id,0,hA hk,.inr ⟨hk,rfl,rfl⟩,⟨arr,t,h1⟩,fun i hi j y hj=>?_⟩
    obtain ⟨cv,h4,h5⟩:=h6 hst i hi j y hj
    refine ⟨cv,?_,h5⟩
    show E.w.cell? ⟨E.η id,0+(i*szE T e+j),none⟩=some cv
    rw [Nat.zero_add]
    simp only [World.cell?,h1]
    exact h4
   have hk:E.κ id≠0:=by
    intro h0
    rw [h0] at hl
    exact hx (List.length_eq_zero_iff.1 (by omega))
   obtain ⟨arr,t,h1,h2,_,h3⟩:=hr hk
   refine ⟨E.η id,0,hA hk,.inr ⟨hk,rfl,rfl⟩,?_,?_⟩
   rotate_left
   ·exact lows_own (S:=E.S) (I.own id (.inr ⟨e,xs,hc,hk⟩)).1 (fun i x hi j y hj=>by
     obtain ⟨cv,h4,h5⟩:=h3 i x hi j y hj
     refine ⟨cv,?_,h5⟩
     show E.w.cell? ⟨E.η id,0+(i*szE T e+j),none⟩=some cv
     rw [Nat.zero_add]
     simp only [World.cell?,h1]
     exact h4)
   have h3':Elems T E.w (fun e' b=>E.S e' b∨(E.κ id≠0∧e'=e∧b=E.η id)) e xs (fun k=>arr[k]?):=h3.mono (fun _ b hb=>⟨.inl hb,rfl⟩)
   intro i x hi j y hj
   obtain ⟨cv,h4,h5⟩:=h3' i x hi j y hj
   refine ⟨cv,?_,h5⟩
   show E.w.cell? ⟨E.η id,0+(i*szE T e+j),none⟩=some cv
   rw [Nat.zero_add]
   simp only [World.cell?,h1]
   exact h4
  ·exact slot_mono hle (upd_other _ _ e') rfl rfl (fun _=>rfl) (I.slot id)
 ·intro id h
  obtain ⟨h1,h2⟩:=hHas id h
  have:=I.own id h1
  refine ⟨?_,this.2.1,this.2.2⟩
  rintro e2 (h3 | ⟨hk,_,h3⟩)
  ·exact this.1 e2 h3
  ·exact h2 (I.inj id d h1 (.inr ⟨e,xs,hc,hk⟩) h3)
 ·intro i j hi hj he
  exact I.inj i j (hHas i hi).1 (hHas j hj).1 he
 ·intro id e1 x1 h1 h2
  by_cases e':id=d
  ·subst e'
   have h1':(upd E.H id (⟨(E.H id).g,.frz e xs⟩:Slot T) id).c=.row e1 x1:=h1
   rw [upd_same] at h1';cases h1'
  ·have h1':(upd E.H d (⟨(E.H d).g,.frz e xs⟩:Slot T) id).c=.row e1 x1:=h1
   rw [upd_other _ _ e'] at h1'
   exact I.rowl id e1 x1 h1' h2
 ·rintro e2 b (hb | ⟨hk,_,rfl⟩)
  ·exact I.slt e2 b hb
  ·exact (I.own d (.inr ⟨e,xs,hc,hk⟩)).2.1
 ·rintro e2 b (hb | ⟨hk,_,rfl⟩) hlt
  ·exact I.s1 e2 b hb hlt
  ·rcases I.rowl d e xs hc hk with h | h
   ·omega
   ·exact .inr h
 ·intro id cs hid hcs
  obtain ⟨_,e'⟩:=hHas id (.inl ⟨cs,hcs⟩)
  have hcs':(upd E.H d (⟨(E.H d).g,.frz e xs⟩:Slot T) id).c=.box cs:=hcs
  rw [upd_other _ _ e'] at hcs'
  exact I.fxd id cs hid hcs'
 ·intro id e1 x1 h1
  by_cases e':id=d
  ·subst e'
   have h1':(upd E.H id (⟨(E.H id).g,.frz e xs⟩:Slot T) id).c=.row e1 x1:=h1
   rw [upd_same] at h1';cases h1'
  ·have h1':(upd E.H d (⟨(E.H d).g,.frz e xs⟩:Slot T) id).c=.row e1 x1:=h1
   rw [upd_other _ _ e'] at h1'
   exact I.cap id e1 x1 h1'
theorem inv_drop {B:Base} {E:Env T} (I:InvE B E) (d:Nat) (g:Nat) (hg:(E.H d).g<g):EnvLe E ⟨E.w,E.S,E.η,E.κ,upd E.H d ⟨g,.none⟩⟩∧InvE B ⟨E.w,E.S,E.η,E.κ,upd E.H d ⟨g,.none⟩⟩:=by
 have hle:EnvLe E ⟨E.w,E.S,E.η,E.κ,upd E.H d ⟨g,.none⟩⟩:=by
  refine ⟨Nat.le_refl _,fun _ b hb=>⟨hb,rfl⟩,fun id=>?_,fun id hge hn=>⟨?_,rfl,rfl⟩⟩
  ·show (E.H id).g≤(upd E.H d _ id).g
   by_cases e':id=d
   ·subst e';rw [upd_same];exact Nat.le_of_lt hg
   ·rw [upd_other _ _ e'];exact Nat.le_refl _
  ·have hge':(E.H id).g=(upd E.H d (⟨g,.none⟩:Slot T) id).g:=hge
   show Shape (E.H id).c (upd E.H d _ id).c
   by_cases e':id=d
   ·subst e';rw [upd_same] at hge';exact absurd hge' (Nat.ne_of_lt hg)
   ·rw [upd_other _ _ e'];exact ((EnvLe.refl E).same id rfl hn).1
 have hHas:∀id,Has (⟨E.w,E.S,E.η,E.κ,upd E.H d ⟨g,.none⟩⟩:Env T) id→Has E id:=by
  intro id h
  by_cases e':id=d
  ·subst e'
   exfalso
   unfold Has at h
   rcases h with ⟨cs,h⟩ | ⟨e1,x1,h,_⟩
   ·have h':(upd E.H id (⟨g,.none⟩:Slot T) id).c=.box cs:=h
    rw [upd_same] at h';cases h'
   ·have h':(upd E.H id (⟨g,.none⟩:Slot T) id).c=.row e1 x1:=h
    rw [upd_same] at h';cases h'
  ·exact has_same (E:=E) h (upd_other _ _ e') rfl
 refine ⟨hle,?_,fun id h=>I.own id (hHas id h),fun i j hi hj=>I.inj i j (hHas i hi) (hHas j hj),?_,I.slt,I.s0,I.s1,I.os,I.tape,I.output,I.size,I.blk,?_,?_⟩
 ·intro id
  by_cases e':id=d
  ·subst e'
   unfold SlotOk
   show match (upd E.H id (⟨g,.none⟩:Slot T) id).c with | .none=>_ | .box cs=>_ | .row e xs=>_ | .frz e xs=>_
   rw [upd_same]
   trivial
  ·exact slot_mono hle (upd_other _ _ e') rfl rfl (fun _=>rfl) (I.slot id)
 ·intro id e1 x1 h1 h2
  by_cases e':id=d
  ·subst e'
   have h1':(upd E.H id (⟨g,.none⟩:Slot T) id).c=.row e1 x1:=h1
   rw [upd_same] at h1';cases h1'
  ·have h1':(upd E.H d (⟨g,.none⟩:Slot T) id).c=.row e1 x1:=h1
   rw [upd_other _ _ e'] at h1'
   exact I.rowl id e1 x1 h1' h2
 ·intro id cs hid hcs
  by_cases e':id=d
  ·subst e'
   have h':(upd E.H id (⟨g,.none⟩:Slot T) id).c=.box cs:=hcs
   rw [upd_same] at h';cases h'
  ·have hcs':(upd E.H d (⟨g,.none⟩:Slot T) id).c=.box cs:=hcs
   rw [upd_other _ _ e'] at hcs'
   exact I.fxd id cs hid hcs'
 ·intro id e1 x1 h1
  by_cases e':id=d
  ·subst e'
   have h1':(upd E.H id (⟨g,.none⟩:Slot T) id).c=.row e1 x1:=h1
   rw [upd_same] at h1';cases h1'
  ·have h1':(upd E.H d (⟨g,.none⟩:Slot T) id).c=.row e1 x1:=h1
   rw [upd_other _ _ e'] at h1'
   exact I.cap id e1 x1 h1'
end
end Go.Proofs.YtggmgmkhohmfiaaGreat.PE
namespace Go.Proofs.YtggmgmkhohmfiaaGreat.PE
noncomputable section
set_option linter.unusedVariables false
open Go Go.RowKit
variable {T:Tbl} {R:Type}
def DLe (d d':Dyn T.ST):Prop:=d=d'∨(d=.nil∧∃e',d'=.lst e' [])
def sk:Dyn T.ST→Dyn T.ST→Prop
 | .int k _,.int k' _=>k=k'
 | .bool _,.bool _=>True
 | .str _,.str _=>True
 | .lst e _,.lst e' _=>e=e'
 | _,_=>False
def SK (l l':List (Dyn T.ST)):Prop:=l.length=l'.length∧∀(i:Nat) d d',l[i]?=some d→l'[i]?=some d'→sk d d'
def DLes (l l':List (Dyn T.ST)):Prop:=l.length=l'.length∧∀(i:Nat) d d',l[i]?=some d→l'[i]?=some d'→DLe d d'
def descOk (T:Tbl):E→TypeDesc→Prop
 | .int k,d=>d=.int k
 | .bool,d=>d=.bool
 | .str,d=>d=.string
 | .lst e,d=>∃t,d=.slice t∧T.ety t=some e
 | .st _,d=>(∃fs,d=.struct fs)∨∃n t,d=.array n t
structure TyOk (P:Program) (T:Tbl) (t:TypeId) (e:E):Prop where
 info:∃i z,P.info? t=some i∧i.size=szE T e∧i.zero=some z∧z.cells.size=szE T e∧(∀(j:Nat) y,(cellsE T e (dft T e))[j]?=some y→∃cv,z.cells[j]?=some cv∧(∀w S,Rep T w S y cv)∧∀E:Env T,RepF E (zeroF y) cv)∧T.bnd e*i.bytes≤140737488355328∧0<i.bytes
 desc:∃d,P.underlying t=some d∧descOk T e d
 pos:0<szE T e
def eqDesc:E→TypeDesc→Prop
 | .int _,d=>∃k,d=.int k
 | .bool,d=>d=.bool
 | .str,d=>d=.string
 | _,_=>False
structure TblOk (P:Program) (T:Tbl):Prop where
 ty:∀t e,T.ety t=some e→TyOk P T t e
 lay1:∀t,T.lay t=1→∃d,P.underlying t=some d∧(match d with | .struct _ | .array _ _=>true | _=>false)=false∧∃i,P.info? t=some i∧i.size=1
 layn:∀t n,T.lay t=n+2→∃d,P.underlying t=some d∧(match d with | .struct _ | .array _ _=>true | _=>false)=true∧∃i,P.info? t=some i∧i.size=n
 fld:∀t f o,T.fld t f=some o→∃fs fd i,P.underlying t=some (.struct fs)∧fs[f]?=some fd∧fd.offset=o∧P.info? fd.type=some i∧i.size≠0
 plc:∀t i o n,T.plc t i=some (o,n)→(∃fs fd inf,P.underlying t=some (.struct fs)∧fs[i]?=some fd∧fd.offset=o∧P.info? fd.type=some inf∧inf.size=n∧∀f∈fs.toList,∃j,P.info? f.type=some j)∨(∃k e inf,P.underlying t=some (.array k e)∧P.info? e=some inf∧inf.size=n∧o=i*n∧i<k)
 eqs : ∀ t es, T.eqs t = some es → ∃ fs, P.underlying t = some (.struct fs) ∧ P.stoodInHeld t = false ∧ P.eqGuardType P.depth t = false ∧ fs.size = es.length ∧ ∀ (j : Nat) (f : Field) (e : E), fs[j]? = some f → es[j]? = some e → f.name ≠ "_" ∧ f.offset = j ∧ ∃ d, P.underlying f.type = some d ∧ eqDesc e d
 arr:∀t,T.arr t=true→∃k e,P.underlying t=some (.array k e)
 len:∀s x,(T.cells s x).length=T.sz s
 kin:∀s x,SK (T.cells s x) (T.cells s (T.zero s))
 mkx:∀s l,SK l (T.cells s (T.zero s))→∃y,T.cells s y=l
 mkc:∀s l x,T.mkS s l=some x→DLes l (T.cells s x)
theorem cells_len {P:Program} (hT:TblOk P T) (e:E) (x:Den T.ST e):(cellsE T e x).length=szE T e:=by
 cases e with
 | st s=>exact hT.len s x
 | _=>rfl
theorem Rep.dle {w:World} {S:E→Nat→Prop} {d d':Dyn T.ST} {v:Value} (h:Rep T w S d v) (k:DLe d d'):Rep T w S d' v:=by
 rcases k with rfl | ⟨rfl,e',rfl⟩
 ·exact h
 ·obtain ⟨A,rfl⟩:=rep_nil.1 h
  exact rep_lst_mk (xs:=([]:List (Den T.ST e'))) (Nat.le_refl _) (fun _ h=>absurd rfl h) (fun h=>absurd rfl h)
theorem toL_ok {a b:E} {xs:List (Den T.ST a)} {ys:List (Den T.ST b)} (h:toL T.ST a b xs=some ys):DLe (Dyn.lst a xs) (Dyn.lst (ST:=T.ST) b ys):=by
 unfold toL at h
 split at h
 ·rename_i hab _
  subst hab
  obtain rfl:=Option.some.inj h
  exact .inl rfl
 ·cases h
theorem lstD_ok {e:E} {d:Dyn T.ST} {ys:List (Den T.ST e)} (h:lstD T.ST e d=some ys):DLe d (Dyn.lst (ST:=T.ST) e ys):=by
 unfold lstD at h
 split at h
 ·exact toL_ok h
 ·obtain rfl:=Option.some.inj h
  exact .inr ⟨rfl,e,rfl⟩
 ·cases h
theorem mkE_ok {P:Program} (hT:TblOk P T) {e:E} {l:List (Dyn T.ST)} {x:Den T.ST e} (h:mkE T e l=some x):DLes l (cellsE T e x):=by
 unfold mkE at h
 split at h
 ·split at h
  ·rename_i hk
   obtain rfl:=Option.some.inj h
   subst hk
   exact ⟨rfl,fun i d d' h1 h2=>.inl (Option.some.inj (h1.symm.trans h2))⟩
  ·cases h
 ·obtain rfl:=Option.some.inj h
  exact ⟨rfl,fun i d d' h1 h2=>.inl (Option.some.inj (h1.symm.trans h2))⟩
 ·obtain rfl:=Option.some.inj h
  exact ⟨rfl,fun i d d' h1 h2=>.inl (Option.some.inj (h1.symm.trans h2))⟩
 ·refine ⟨rfl,fun i d d' h1 h2=>?_⟩
  cases i with
  | zero=>simp [cellsE] at h1 h2;subst h1;subst h2;exact lstD_ok h
  | succ i=>simp at h1
 ·exact hT.mkc _ _ _ h
 ·cases h
def OpsOk (E:Env T) (o:Oper) (s:St T) (a:Act):Prop:=∀x∈o.op.operands.toList,RepF E (ev s x) (a.eval x)
theorem const1_rep (E:Env T) (v:Value):RepF E (constV1 v) v:=by
 cases v with
 | int k n=>simp only [constV1,RepF];exact rep_int.2 rfl
 | bool b=>simp only [constV1,RepF]
 | string b=>simp only [constV1,RepF];exact rep_str.2 rfl
 | slice A n c=>
  simp only [constV1]
  split
  ·rename_i h;cases h
  ·rename_i h;cases h
  ·rename_i h;cases h
  ·rename_i h
   injection h with h1 h2 h3
   subst h1;subst h2;subst h3
   simp only [RepF]
   exact ⟨none,rfl⟩
  ·simp only [RepF]
 | _=>simp only [constV1,RepF]
theorem const_rep (E:Env T) (v:Value):RepF E (constV v) v:=by
 cases v with
 | agg vs=>
  simp only [constV,RepF]
  refine ⟨vs.toList,by simp,?_⟩
  generalize vs.toList=l
  induction l with
  | nil=>rw [List.map_nil,RepL]
  | cons v l ih=>rw [List.map_cons,RepL];exact ⟨v,l,rfl,const1_rep E v,ih⟩
 | _=>simp only [constV];exact const1_rep E _
theorem ev_rep {E:Env T} {s:St T} {a:Act} (x:Operand) (h:∀t,x=.tmp t→RepF E (s.f t) (a.tmps.getD t undef)):RepF E (ev s x) (a.eval x):=by
 cases x with
 | tmp t=>exact h t rfl
 | const v=>exact const_rep E v
 | global g=>simp only [ev,RepF]
 | func f=>simp only [ev,RepF,Act.eval];exact ⟨[],rfl,by simp only [RepL]⟩
def Sub (HD H:Nat→Slot T):Prop:=∀id,(HD id).g=(H id).g∧((HD id).c=(H id).c∨(HD id).c=.none∨(H id).c=.none)
theorem Sub.refl (H:Nat→Slot T):Sub H H:=fun _=>⟨rfl,.inl rfl⟩
theorem Sub.get {HD H:Nat→Slot T} (h:Sub HD H) {id:Nat} (hc:(HD id).c≠.none) (hh:(H id).c≠.none):(HD id).c=(H id).c:=((h id).2.resolve_right (fun e=>e.elim hc hh))
def app (δ:Option (Nat×Cont T)) (H:Nat→Slot T):Nat→Slot T:=match δ with | none=>H | some (d,c)=>upd H d ⟨(H d).g,c⟩
def QOk (P:Program) (o:Oper) (s:St T) (v:FV T) (δ:Option (Nat×Cont T)):Prop:=
 ∀(B:Base) (E:Env T) (a:Act),InvE B E→Sub E.H s.h→(∀d c,δ=some (d,c)→(E.H d).c=.none)→OpsOk E o s a→∀(next:Act→World→Prop) (Q:Exit→Act→World→Prop),
  (∀E' cv,EnvLe E E'→InvE B E'→RepF E' v cv→E'.H=app δ E.H→next (a.put o.dst cv) E'.w)→Oper.wp P o a E.w next Q
def LOk (P:Program) (o:Oper) (s:St T) (v:FV T) (h':Nat→Slot T):Prop:=
 ∀(B:Base) (E:Env T) (a:Act),InvE B E→E.H=s.h→OpsOk E o s a→∀(next:Act→World→Prop) (Q:Exit→Act→World→Prop),
  (∀E' cv,EnvLe E E'→InvE B E'→RepF E' v cv→E'.H=h'→next (a.put o.dst cv) E'.w)→Oper.wp P o a E.w next Q
theorem QOk.l {P:Program} {o:Oper} {s:St T} {v:FV T} {δ:Option (Nat×Cont T)} (h:QOk P o s v δ) (hn:∀d c,δ=some (d,c)→(s.h d).c=.none):LOk P o s v (app δ s.h):=by
 intro B E a I hH ho next Q k
 refine h B E a I (hH▸Sub.refl _) (fun d c e=>hH▸hn d c e) ho next Q fun E' cv h1 h2 h3 h4=>k E' cv h1 h2 h3 ?_
 rw [h4,hH]
theorem wp_value {P:Program} {o:Oper} {a:Act} {w w':World} {next:Act→World→Prop} {Q:Exit→Act→World→Prop} {cv:Value} (h:(execOp a.eval o).run P w=.ok (.value cv) w') (k:next (a.put o.dst cv) w'):Oper.wp P o a w next Q:=by
 unfold Oper.wp
 rw [h]
 exact k
theorem wp_skip' {P:Program} {o:Oper} {a:Act} {w w':World} {next:Act→World→Prop} {Q:Exit→Act→World→Prop} (h:(execOp a.eval o).run P w=.ok .skip w') (k:next (a.put o.dst undef) w'):Oper.wp P o a w next Q:=by
 unfold Oper.wp
 rw [h]
 exact k
def Q0 (P:Program) (o:Oper) (s:St T) (v:FV T):Prop:=
 ∀(B:Base) (E:Env T) (a:Act),InvE B E→OpsOk E o s a→∃cv,(execOp a.eval o).run P E.w=.ok (.value cv) E.w∧RepF E v cv
theorem QOk.val {P:Program} {o:Oper} {s:St T} {v:FV T}
  (h:∀(B:Base) (E:Env T) (a:Act),InvE B E→Sub E.H s.h→OpsOk E o s a→∃cv,(execOp a.eval o).run P E.w=.ok (.value cv) E.w∧RepF E v cv):QOk P o s v none:=by
 intro B E a I hs _ ho next Q k
 obtain ⟨cv,h1,h2⟩:=h B E a I hs ho
 exact wp_value h1 (k E cv (EnvLe.refl E) I h2 rfl)
theorem Q0.q {P:Program} {o:Oper} {s:St T} {v:FV T} (h:Q0 P o s v):QOk P o s v none:=QOk.val fun B E a I _ ho=>h B E a I ho
theorem q_move {P:Program} {o:Oper} {s:St T} {x:Operand} (ho:o.op=.move x∨o.op=.assign x):Q0 P o s (ev s x):=by
 refine fun B E a _ hx=>⟨a.eval x,?_,hx x ?_⟩
 ·rcases ho with ho | ho <;> simp [execOp,ho]
 ·rcases ho with ho | ho <;> simp [Op.operands,ho]
theorem q_pick {P:Program} {o:Oper} {s:St T} {c x y:Operand} (ho:o.op=.pick c x y) (b:Bool) (hc:∀E v,RepF E (ev s c) v→v=.bool b):Q0 P o s (ev s (if b then x else y)):=by
 refine fun B E a _ hx=>⟨a.eval (if b then x else y),?_,hx _ ?_⟩
 ·have h:=hc E _ (hx c (by simp [Op.operands,ho]))
  simp [execOp,ho,h,asBool]
  cases b <;> rfl
 ·cases b <;> simp [Op.operands,ho]
theorem binI_ok {P:Program} {op:BinOp} {k:IntKind} {x y:Int} {K:FV T→Option R} {r:R} (h:binI op k x y K=some r):
  ∃v,K v=some r∧∀(xT:TypeId) (X Y:Operand) (w:World) (E:Env T),∃cv,(do eqGuard op xT X Y (.int k x) (.int k y);Go.binOp op xT (.int k x) (.int k y)).run P w=.ok cv w∧RepF E v cv:=by
 unfold binI at h
 split at h
 case h_16=>
  split at h
  ·cases h
  ·rename_i h0
   exact ⟨_,h,fun xT X Y w E=>⟨.int k (k.wrap (x*2 ^ (min y.toNat k.bits))),by simp [eqGuard,Go.binOp,Op.shift,h0],by rw [RepF,wr_eq];exact rep_int.2 rfl⟩⟩
 case h_17=>
  split at h
  ·cases h
  ·rename_i h0
   exact ⟨_,h,fun xT X Y w E=>⟨.int k (x.fdiv (2 ^ (min y.toNat k.bits))),by simp [eqGuard,Go.binOp,Op.shift,h0],by rw [RepF];exact rep_int.2 rfl⟩⟩
 case h_12=>exact ⟨_,h,fun xT X Y w E=>⟨.int k (bits .and k x y),by simp [eqGuard,binOp_and,intBits_and],by rw [RepF];exact rep_int.2 rfl⟩⟩
 case h_13=>exact ⟨_,h,fun xT X Y w E=>⟨.int k (bits .or k x y),by simp [eqGuard,binOp_or,intBits_or],by rw [RepF];exact rep_int.2 rfl⟩⟩
 case h_14=>exact ⟨_,h,fun xT X Y w E=>⟨.int k (bits .xor k x y),by simp [eqGuard,binOp_xor,intBits_xor],by rw [RepF];exact rep_int.2 rfl⟩⟩
 case h_15=>exact ⟨_,h,fun xT X Y w E=>⟨.int k (bits .andNot k x y),by simp [eqGuard,binOp_andNot,intBits_andNot],by rw [RepF];exact rep_int.2 rfl⟩⟩
 case h_10=>
  split at h
  ·cases h
  ·rename_i h0
   exact ⟨_,h,fun xT X Y w E=>⟨.int k (k.wrap (x.tdiv y)),by simp [eqGuard,Go.binOp,Op.intDiv,h0],by rw [RepF,wr_eq];exact rep_int.2 rfl⟩⟩
 case h_11=>
  split at h
  ·cases h
  ·rename_i h0
   exact ⟨_,h,fun xT X Y w E=>⟨.int k (x.tmod y),by simp [eqGuard,Go.binOp,Op.intDiv,h0],by rw [RepF];exact rep_int.2 rfl⟩⟩
 all_goals
  refine ⟨_,h,fun xT X Y w E=>?_⟩
  simp only [RepF]
  first
   | exact ⟨.int k (k.wrap (x+y)),by simp [eqGuard,Go.binOp,Op.intArith],by rw [wr_eq];exact rep_int.2 rfl⟩
   | exact ⟨.int k (k.wrap (x - y)),by simp [eqGuard,Go.binOp,Op.intArith],by rw [wr_eq];exact rep_int.2 rfl⟩
   | exact ⟨.int k (k.wrap (x*y)),by simp [eqGuard,Go.binOp,Op.intArith],by rw [wr_eq];exact rep_int.2 rfl⟩
   | exact ⟨.bool (decide (x<y)),by simp [eqGuard,Go.binOp,Op.intCmp],rfl⟩
   | exact ⟨.bool (decide (x≤y)),by simp [eqGuard,Go.binOp,Op.intCmp],rfl⟩
   | exact ⟨.bool (decide (x>y)),by simp [eqGuard,Go.binOp,Op.intCmp],rfl⟩
   | exact ⟨.bool (decide (x≥y)),by simp [eqGuard,Go.binOp,Op.intCmp],rfl⟩
   | exact ⟨.bool (decide (x=y)),by simp [eqGuard,Go.binOp,Op.intCmp];try rfl,rfl⟩
   | exact ⟨.bool (decide (¬x=y)),by simp [eqGuard,Go.binOp,Op.intCmp];try rfl,rfl⟩
theorem q_binI {P:Program} {o:Oper} {s:St T} {op:BinOp} {t t2:TypeId} {X Y:Operand} {k:IntKind} {x y:Int} {K:FV T→Option R} {r:R}
  (ho:o.op=.binOp op t X Y t2) (hx:ev s X=.d (.int k x)) (hy:ev s Y=.d (.int k y)) (h:binI op k x y K=some r):∃v,K v=some r∧Q0 P o s v:=by
 obtain ⟨v,h1,h2⟩:=binI_ok (P:=P) h
 refine ⟨v,h1,fun B E a _ hops=>?_⟩
 have ex:=hops X (by simp [Op.operands,ho])
 have ey:=hops Y (by simp [Op.operands,ho])
 rw [hx,RepF] at ex
 rw [hy,RepF] at ey
 obtain ⟨cv,h3,h4⟩:=h2 t X Y E.w E
 refine ⟨cv,?_,h4⟩
 simp only [execOp,ho,rep_int.1 ex,rep_int.1 ey]
 rw [Sem.run_bind,h3]
 rfl
theorem q_shK {P:Program} {o:Oper} {s:St T} {op:BinOp} {t t2:TypeId} {X Y:Operand} {k k2:IntKind} {x y:Int} {K:FV T→Option R} {r:R}
  (ho:o.op=.binOp op t X Y t2) (hx:ev s X=.d (.int k x)) (hy:ev s Y=.d (.int k2 y)) (h:shK op k x y K=some r):∃v,K v=some r∧Q0 P o s v:=by
 have run:∀(E:Env T) (a:Act),OpsOk E o s a→∀cv,(Go.binOp op t (.int k x) (.int k2 y)).run P E.w=.ok cv E.w→op=.shl∨op=.shr→(execOp a.eval o).run P E.w=.ok (.value cv) E.w:=by
  intro E a hops cv hcv hop
  have ex:=hops X (by simp [Op.operands,ho])
  have ey:=hops Y (by simp [Op.operands,ho])
  rw [hx,RepF] at ex
  rw [hy,RepF] at ey
  simp only [execOp,ho,rep_int.1 ex,rep_int.1 ey]
  have hg:(eqGuard op t X Y (.int k x) (.int k2 y)).run P E.w=.ok () E.w:=by rcases hop with rfl | rfl <;> simp [eqGuard]
  rw [Sem.run_bind,Sem.run_bind,hg]
  simp [hcv]
 unfold shK at h
 split at h
 ·split at h
  ·cases h
  ·rename_i h0
   exact ⟨_,h,fun B E a _ hops=>⟨.int k (k.wrap (x*2 ^ (min y.toNat k.bits))),run E a hops _ (by simp [Go.binOp,Op.shift,h0]) (.inl rfl),by rw [RepF,wr_eq];exact rep_int.2 rfl⟩⟩
 ·split at h
  ·cases h
  ·rename_i h0
   exact ⟨_,h,fun B E a _ hops=>⟨.int k (x.fdiv (2 ^ (min y.toNat k.bits))),run E a hops _ (by simp [Go.binOp,Op.shift,h0]) (.inr rfl),by rw [RepF];exact rep_int.2 rfl⟩⟩
 ·cases h
end
end Go.Proofs.YtggmgmkhohmfiaaGreat.PE
namespace Go.Proofs.YtggmgmkhohmfiaaGreat.PE
noncomputable section
set_option linter.unusedVariables false
open Go Go.RowKit
variable {T:Tbl} {R:Type}
theorem add0 (b o k:Nat):(⟨b,o,none⟩:Addr).add k=⟨b,o+k,none⟩:=by
 unfold Addr.add
 split
 ·subst_vars;rfl
 ·rfl
theorem rep_kd {w:World} {S:E→Nat→Prop} {y:Dyn T.ST} {cv:Value} (h:Rep T w S y cv):kd y cv:=by
 cases y with
 | int k n=>exact ⟨n,rep_int.1 h⟩
 | bool b=>exact ⟨b,rep_bool.1 h⟩
 | str s=>exact ⟨s,rep_str.1 h⟩
 | lst e xs=>obtain ⟨A,c,h1,_⟩:=rep_lst h;exact ⟨A,_,c,h1⟩
 | nil=>obtain ⟨A,h1⟩:=rep_nil.1 h;exact ⟨A,0,0,h1⟩
theorem kd_sk {y z:Dyn T.ST} {cv:Value} (h:kd y cv) (k:sk y z):kd z cv:=by
 cases y <;> cases z <;> first | exact h | (cases k;exact h) | exact k.elim
theorem sk_symm {y z:Dyn T.ST} (k:sk y z):sk z y:=by
 cases y <;> cases z <;> first | exact k | (cases k;rfl) | exact k.elim
theorem sk_trans {x y z:Dyn T.ST} (k:sk x y) (l:sk y z):sk x z:=by
 cases x <;> cases y <;> cases z <;> first | exact k.elim | exact l.elim | trivial | exact Eq.trans k l
theorem SK.symm {l l':List (Dyn T.ST)} (h:SK l l'):SK l' l:=⟨h.1.symm,fun i d d' h1 h2=>sk_symm (h.2 i d' d h2 h1)⟩
theorem SK.trans {l l' l'':List (Dyn T.ST)} (h:SK l l') (k:SK l' l''):SK l l'':=⟨h.1.trans k.1,fun i d d' h1 h2=>by
 have hlt:i<l'.length:=by
  rw [←h.1]
  rcases Nat.lt_or_ge i l.length with h' | h'
  ·exact h'
  ·rw [List.getElem?_eq_none h'] at h1;cases h1
 exact sk_trans (h.2 i d _ h1 (List.getElem?_eq_getElem hlt)) (k.2 i _ d' (List.getElem?_eq_getElem hlt) h2)⟩
theorem cells_sk {P:Program} (hT:TblOk P T) (e:E) (x y:Den T.ST e):SK (cellsE T e x) (cellsE T e y):=by
 cases e with
 | st s=>exact (hT.kin s x).trans (hT.kin s y).symm
 | int k=>exact ⟨rfl,fun i d d' h1 h2=>by cases i <;> simp [cellsE] at h1 h2;subst h1;subst h2;rfl⟩
 | bool=>exact ⟨rfl,fun i d d' h1 h2=>by cases i <;> simp [cellsE] at h1 h2;subst h1;subst h2;trivial⟩
 | str=>exact ⟨rfl,fun i d d' h1 h2=>by cases i <;> simp [cellsE] at h1 h2;subst h1;subst h2;trivial⟩
 | lst e=>exact ⟨rfl,fun i d d' h1 h2=>by cases i <;> simp [cellsE] at h1 h2;subst h1;subst h2;rfl⟩
def Rest (T:Tbl) (e:E) (a n:Nat) (at_:Nat→Option Value):Prop:=
 ∀i,a≤i→i<n→∀j y,(cellsE T e (dft T e))[j]?=some y→∃cv,at_ (i*szE T e+j)=some cv∧kd y cv
theorem kinds_of {P:Program} (hT:TblOk P T) {w:World} {S:E→Nat→Prop} {e:E} {xs:List (Den T.ST e)} {f:Nat→Option Value} {n:Nat} (h:Elems T w S e xs f) (hr:Rest T e xs.length n f):Kinds T e n f:=by
 intro i hi j y hj
 by_cases hx:i<xs.length
 ·have hk:=cells_sk hT e xs[i] (dft T e)
  have hlt:j<(cellsE T e xs[i]).length:=by
   rw [hk.1]
   rcases Nat.lt_or_ge j (cellsE T e (dft T e)).length with h' | h'
   ·exact h'
   ·rw [List.getElem?_eq_none h'] at hj;cases hj
  obtain ⟨cv,h1,h2⟩:=h i _ (List.getElem?_eq_getElem hx) j _ (List.getElem?_eq_getElem hlt)
  exact ⟨cv,h1,kd_sk (rep_kd h2) (hk.2 j _ y (List.getElem?_eq_getElem hlt) hj)⟩
 ·exact hr i (by omega) hi j y hj
theorem kinds_and {P:Program} (hT:TblOk P T) {w:World} {S:E→Nat→Prop} {e:E} {xs:List (Den T.ST e)} {f:Nat→Option Value} {n:Nat} (h:Elems T w S e xs f) (hr:T.str e=true→Rest T e xs.length n f):(T.str e=true→Kinds T e n f)∧Elems T w S e xs f:=
 ⟨fun hs=>kinds_of hT h (hr hs),h⟩
theorem Kinds.rest {e:E} {a n:Nat} {f:Nat→Option Value} (h:Kinds T e n f):Rest T e a n f:=fun i _ hi=>h i hi
theorem plain_of {w:World} {S:E→Nat→Prop} {e:E} {c b o:Nat} (h:Room T w S e c (some ⟨b,o,none⟩)) (hc:0<c):Plain T w e b:=by
 intro hs
 obtain ⟨b',o',h1,_,h2,_⟩:=h hs (by omega)
 injection h1 with h1
 injection h1 with h1
 rw [h1];exact h2
theorem beq_true {a b:Nat} (h:Nat.beq a b=true):a=b:=Nat.eq_of_beq_eq_true h
theorem rd_some (T:Tbl) (e:E) (xs:List (Den T.ST e)) (i:Int) (h:i.toNat<xs.length):xs[i.toNat]?=some (rdE T e xs i):=by
 unfold rdE
 rw [List.getD_eq_getElem?_getD,List.getElem?_eq_getElem h]
 rfl
theorem at_ok {B:Base} {E:Env T} {H:Nat→Slot T} (I:InvE B E) (hs:Sub E.H H) {v:FV T} {av:Value} (hv:RepF E v av) {cs:List (FV T)} {off:Nat} (h:atF H v=some (cs,off)):
  ∃b o,av=.pointer (some ⟨b,o,none⟩)∧∀(j:Nat) c,cs[off+j]?=some c→∃cv,E.w.cell? ⟨b,o+j,none⟩=some cv∧RepF E c cv:=by
 unfold atF at h
 split at h
 ·rename_i id g off'
  split at h
  ·rename_i g' cs' hH
   split at h
   ·rename_i hg
    have hg:=beq_true hg
    obtain ⟨rfl,rfl⟩:=Prod.mk.inj (Option.some.inj h)
    rw [RepF] at hv
    obtain ⟨h1,h2⟩:=hv
    have hgen:(E.H id).g=g':=by rw [(hs id).1,hH]
    obtain ⟨cs2,hc,rfl⟩:=h2 (by rw [hgen,hg])
    have hc2:(E.H id).c=.box cs':=by rw [hs.get (by rw [hc];nofun) (by rw [hH];nofun),hH]
    have hsl:=I.slot id
    unfold SlotOk at hsl
    rw [hc2] at hsl
    obtain ⟨_,arr,t,ha,hr⟩:=hsl
    refine ⟨E.η id,off',rfl,fun j c hj=>?_⟩
    obtain ⟨cv,h3,h4⟩:=hr.get _ _ hj
    refine ⟨cv,?_,h4⟩
    simp only [World.cell?,ha]
    rw [←Array.getElem?_toList]
    exact h3
   ·cases h
  ·cases h
 ·rename_i e xs i off'
  obtain ⟨rfl,rfl⟩:=Prod.mk.inj (Option.some.inj h)
  rw [RepF] at hv
  obtain ⟨b,o,h1,h2,i0,i1,h3⟩:=hv
  refine ⟨b,o+off',h1,fun j c hj=>?_⟩
  rw [List.getElem?_map] at hj
  obtain ⟨y,hy,rfl⟩:=Option.map_eq_some_iff.1 hj
  obtain ⟨cv,h4,h5⟩:=h3 _ y hy
  exact ⟨cv,by rw [Nat.add_assoc];exact h4,by rw [RepF];exact h5⟩
 ·rename_i id g i off'
  split at h
  ·rename_i g' e xs hH
   split at h
   ·rename_i hg
    have hg:=beq_true hg
    obtain ⟨rfl,rfl⟩:=Prod.mk.inj (Option.some.inj h)
    rw [RepF] at hv
    obtain ⟨h1,h2⟩:=hv
    have hgen:(E.H id).g=g':=by rw [(hs id).1,hH]
    obtain ⟨e2,xs2,hc,i0,i1,rfl⟩:=h2 (by rw [hgen,hg])
    have hc2:(E.H id).c=.row e xs:=by rw [hs.get (by rcases hc with hc | hc <;> rw [hc] <;> nofun) (by rw [hH];nofun),hH]
    rw [hc2] at hc
    have hee:e2=e∧HEq xs2 xs:=by
     rcases hc with hc | hc
     ·injection hc with a b;exact ⟨a.symm,b.symm⟩
     ·cases hc
    obtain ⟨rfl,hxx⟩:=hee
    obtain rfl:=eq_of_heq hxx
    have hsl:=I.slot id
    unfold SlotOk at hsl
    rw [hc2] at hsl
    obtain ⟨hl,hr⟩:=hsl
    obtain ⟨arr,t,ha,hz,_,he⟩:=hr (Nat.ne_of_gt (Nat.lt_of_lt_of_le (Nat.lt_of_le_of_lt (Nat.zero_le _) i1) hl))
    refine ⟨E.η id,i.toNat*szE T e2+off',rfl,fun j c hj=>?_⟩
    rw [List.getElem?_map] at hj
    obtain ⟨y,hy,rfl⟩:=Option.map_eq_some_iff.1 hj
    obtain ⟨cv,h4,h5⟩:=he i.toNat _ (rd_some T e2 xs2 i i1) _ y hy
    refine ⟨cv,?_,by rw [RepF];exact h5⟩
    simp only [World.cell?,ha]
    rw [Nat.add_assoc]
    exact h4
   ·cases h
  ·cases h
 ·cases h
theorem choose_vals {Q:Nat→Value→Prop}:∀n,(∀j,j<n→∃v,Q j v)→∃vs:List Value,vs.length=n∧∀(j:Nat) v,vs[j]?=some v→Q j v:=by
 intro n
 induction n with
 | zero=>intro _;exact ⟨[],rfl,fun j v h=>by simp at h⟩
 | succ n ih=>
  intro h
  obtain ⟨vs,hl,hq⟩:=ih (fun j hj=>h j (by omega))
  obtain ⟨v,hv⟩:=h n (by omega)
  refine ⟨vs++[v],by rw [List.length_append,hl,List.length_singleton],fun j u hj=>?_⟩
  by_cases e:j<n
  ·rw [List.getElem?_append_left (by omega)] at hj;exact hq j u hj
  ·rw [List.getElem?_append_right (by omega)] at hj
   have:j=n:=by
    rcases Nat.lt_or_ge (j - vs.length) 1 with h' | h'
    ·omega
    ·rw [List.getElem?_eq_none (by simpa using h')] at hj;cases hj
   subst this
   rw [hl,Nat.sub_self] at hj
   simp at hj
   subst hj
   exact hv
theorem load_ok {P:Program} (hT:TblOk P T) {E:Env T} {t:TypeId} {cs:List (FV T)} {off:Nat} {v:FV T} (h:loadF T t cs off=some v) {b o:Nat}
  (hc:∀(j:Nat) c,cs[off+j]?=some c→∃cv,E.w.cell? ⟨b,o+j,none⟩=some cv∧RepF E c cv):
  ∃cv,(Instr.loadAt t (.pointer (some ⟨b,o,none⟩))).run P E.w=.ok cv E.w∧RepF E v cv:=by
 unfold loadF at h
 split at h
 ·cases h
 ·rename_i hl
  obtain ⟨d,hd,hn,i,hi,hz⟩:=hT.lay1 t hl
  obtain ⟨cv,h1,h2⟩:=hc 0 v h
  refine ⟨cv,?_,h2⟩
  simp only [Instr.loadAt,Instr.sureAddr,loadVar]
  rw [Sem.run_bind,Sem.run_pure]
  simp only [Result.andThen]
  have hagg:(isAgg t).run P E.w=.ok false E.w:=by
   unfold isAgg
   rw [Sem.run_bind,run_underlying hd]
   cases d <;> simp at hn⊢
  rw [Sem.run_bind,hagg]
  simp only [Result.andThen]
  rw [Nat.add_zero] at h1
  simp [run_load,h1]
 ·rename_i n hl
  split at h
  ·rename_i hle
   have hle:=Nat.le_of_ble_eq_true hle
   obtain rfl:=Option.some.inj h
   obtain ⟨d,hd,hn,i,hi,hz⟩:=hT.layn t n hl
   obtain ⟨vs,hvl,hvq⟩:=choose_vals (Q:=fun j v=>E.w.cell? ⟨b,o+j,none⟩=some v∧∀c,cs[off+j]?=some c→RepF E c v) n (fun j hj=>by
    have hj':cs[off+j]?=some cs[off+j]:=List.getElem?_eq_getElem (by omega)
    obtain ⟨cv,h1,h2⟩:=hc j _ hj'
    exact ⟨cv,h1,fun c hcc=>by rw [hj'] at hcc;rw [←Option.some.inj hcc];exact h2⟩)
   refine ⟨.agg vs.toArray,?_,?_⟩
   ·have hagg:(isAgg t).run P E.w=.ok true E.w:=by
     unfold isAgg
     rw [Sem.run_bind,run_underlying hd]
     cases d <;> simp at hn⊢
    simp only [Instr.loadAt,Instr.sureAddr,loadVar]
    rw [Sem.run_bind,Sem.run_pure]
    simp only [Result.andThen]
    rw [Sem.run_bind,hagg]
    simp only [Result.andThen,if_true]
    have hcl:=run_loadCells_list (P:=P) E.w ⟨b,o,none⟩ vs (fun j v hj=>by rw [add0];exact (hvq j v hj).1)
    rw [hvl] at hcl
    simp [sizeOf,typeInfo,hi,hz,hcl]
   ·rw [RepF]
    refine ⟨vs,rfl,RepL.mk (by rw [hvl,List.length_take,List.length_drop];omega) fun i c v hi hv=>?_⟩
    have hin:i<n:=by
     rcases Nat.lt_or_ge i vs.length with h | h
     ·omega
     ·rw [List.getElem?_eq_none h] at hv;cases hv
    rw [List.getElem?_take_of_lt hin,List.getElem?_drop] at hi
    exact (hvq i v hv).2 c hi
  ·cases h
theorem q_load {P:Program} (hT:TblOk P T) {o:Oper} {s:St T} {t:TypeId} {x:Operand} (ho:o.op=.load t x) {cs:List (FV T)} {off:Nat} {v:FV T}
  (h1:atF s.h (ev s x)=some (cs,off)) (h2:loadF T t cs off=some v):QOk P o s v none:=by
 refine QOk.val fun B E a I hs hops=>?_
 obtain ⟨b,p,ha,hc⟩:=at_ok I hs (hops x (by simp [Op.operands,ho])) h1
 obtain ⟨cv,h3,h4⟩:=load_ok hT h2 hc
 refine ⟨cv,?_,h4⟩
 simp only [execOp,ho,ha]
 rw [Sem.run_bind,h3]
 rfl
theorem q_fieldAddr {P:Program} (hT:TblOk P T) {o:Oper} {s:St T} {t:TypeId} {x:Operand} {f o':Nat} (ho:o.op=.fieldAddr t x f) (hf:T.fld t f=some o') {cs:List (FV T)×Nat} (h1:atF s.h (ev s x)=some cs)
  {v:FV T} (hv:match ev s x with | .ptr id g off=>v=.ptr id g (off+o') | .elp e xs i off=>v=.elp e xs i (off+o') | .oel id g i off=>v=.oel id g i (off+o') | _=>False):QOk P o s v none:=by
 refine QOk.val fun B E a I hs hops=>?_
 have hx:=hops x (by simp [Op.operands,ho])
 obtain ⟨b,p,ha,_⟩:=at_ok (cs:=cs.1) (off:=cs.2) I hs hx h1
 obtain ⟨fs,fd,i,hu,hfd,hoff,hi,hz⟩:=hT.fld t f o' hf
 refine ⟨.pointer (some ⟨b,p+o',none⟩),?_,?_⟩
 ·simp only [execOp,ho,ha,Instr.fieldAt,Instr.sureAddr]
  simp [run_underlying hu,hfd,fieldPlace,sizeOf,typeInfo,hi,hz,add0,hoff]
 ·rw [ha] at hx
  cases hev:ev s x with
  | ptr id g off=>
   rw [hev] at hv hx
   simp only at hv
   subst hv
   rw [RepF] at hx⊢
   refine ⟨⟨hx.1.1,rfl⟩,fun hg=>?_⟩
   obtain ⟨cs',hc,hp⟩:=hx.2 hg
   injection hp with hp;injection hp with hp;injection hp with h2 h3 h4
   exact ⟨cs',hc,by rw [←h2,←h3]⟩
  | elp e xs i off=>
   rw [hev] at hv hx
   simp only at hv
   subst hv
   rw [RepF] at hx⊢
   obtain ⟨b',o2,hp,r⟩:=hx
   injection hp with hp;injection hp with hp;injection hp with h2 h3 h4
   exact ⟨b',o2,by rw [h2,h3,Nat.add_assoc],r⟩
  | oel id g i off=>
   rw [hev] at hv hx
   simp only at hv
   subst hv
   rw [RepF] at hx⊢
   refine ⟨⟨hx.1.1,rfl⟩,fun hg=>?_⟩
   obtain ⟨e,xs,hc,i0,i1,hp⟩:=hx.2 hg
   injection hp with hp;injection hp with hp;injection hp with h2 h3 h4
   exact ⟨e,xs,hc,i0,i1,by rw [←h2,h3,Nat.add_assoc]⟩
  | _=>rw [hev] at hv;exact hv.elim
theorem elem_size {P:Program} (hT:TblOk P T) {t:TypeId} {e:E} (h:T.ety t=some (.lst e)):∃t',P.underlying t=some (.slice t')∧T.ety t'=some e∧∃i,P.info? t'=some i∧i.size=szE T e:=by
 obtain ⟨d,hd,t',rfl,ht'⟩:=(hT.ty _ _ h).desc
 obtain ⟨i,z,hi,hz,_⟩:=(hT.ty _ _ ht').info
 exact ⟨t',hd,ht',i,hi,hz⟩
theorem run_indexAt {P:Program} {t t':TypeId} {i:TypeInfo} (hu:P.underlying t=some (.slice t')) (hi:P.info? t'=some i) (w:World) (b o n c:Nat) (k:IntKind) (ix:Int) (h0:0≤ix) (h1:ix<(n:Int)):
  (Instr.indexAt t (.slice (some ⟨b,o,none⟩) n c) (.int k ix)).run P w=.ok (.pointer (some ⟨b,o+ix.toNat*i.size,none⟩)) w:=by
 simp [Instr.indexAt,asIntOf,run_underlying hu,h0,h1,sizeOf,typeInfo,hi,add0]
theorem q_index {P:Program} (hT:TblOk P T) {o:Oper} {s:St T} {t:TypeId} {x y:Operand} (ho:o.op=.indexAddr t x y) {e:E} (ht:T.ety t=some (.lst e)) {k:IntKind} {i:Int} (hy:ev s y=.d (.int k i))
  {K:FV T→Option R} {r:R} (h:idxK s.h (szE T e) (ev s x) i K=some r):∃v,K v=some r∧QOk P o s v none:=by
 obtain ⟨t',hu,_,inf,hinf,hsz⟩:=elem_size hT ht
 have run:∀(E:Env T) (a:Act),OpsOk E o s a→∀b p n c,a.eval x=.slice (some ⟨b,p,none⟩) n c→0≤i→i<(n:Int)→(execOp a.eval o).run P E.w=.ok (.value (.pointer (some ⟨b,p+i.toNat*szE T e,none⟩))) E.w:=by
  intro E a hops b p n c hx h0 h1
  have e1:=hops y (by simp [Op.operands,ho])
  rw [hy,RepF] at e1
  simp only [execOp,ho,hx,rep_int.1 e1]
  rw [Sem.run_bind,run_indexAt hu hinf _ _ _ _ _ _ _ h0 h1,hsz]
  rfl
 unfold idxK at h
 split at h
 ·rename_i e' xs hx
  split at h
  ·rename_i hz
   have hz:=beq_true hz
   split at h
   ·rename_i h0
    split at h
    ·rename_i h1
     refine ⟨_,h,QOk.val fun B E a I hs hops=>?_⟩
     have ex:=hops x (by simp [Op.operands,ho])
     rw [hx,RepF] at ex
     obtain ⟨A,c,hA,hc,hroom,hne⟩:=rep_lst ex
     have hlt:i.toNat<xs.length:=by omega
     obtain ⟨b,p,rfl,hS,he,hlw⟩:=hne (by intro h';rw [h'] at hlt;simp at hlt)
     refine ⟨_,run E a hops b p _ c hA h0 h1,?_⟩
     rw [RepF]
     refine ⟨b,p+i.toNat*szE T e,by rw [Nat.add_zero],⟨hS,plain_of hroom (by omega),fun j y hj cv hcv=>hlw i.toNat _ (rd_some T e' xs i hlt) j y hj cv (by rw [hz,Nat.add_assoc] at hcv;exact hcv)⟩,h0,hlt,fun j y hj=>?_⟩
     obtain ⟨cv,h2,h3⟩:=he i.toNat _ (rd_some T e' xs i hlt) j y hj
     exact ⟨cv,by rw [hz,Nat.add_assoc];exact h2,h3⟩
    ·cases h
   ·cases h
  ·cases h
 ·rename_i id g hx
  split at h
  ·rename_i g' e' xs hH
   split at h
   ·rename_i hg hz
    have hz:=beq_true hz
    have hg:=beq_true hg
    split at h
    ·rename_i h0
     split at h
     ·rename_i h1
      refine ⟨_,h,QOk.val fun B E a I hs hops=>?_⟩
      have ex:=hops x (by simp [Op.operands,ho])
      rw [hx,RepF] at ex
      have hgen:(E.H id).g=g':=by rw [(hs id).1,hH]
      obtain ⟨e2,xs2,hc,A,hA⟩:=ex.2 (by rw [hgen,hg])
      have hc2:(E.H id).c=.row e' xs:=by rw [hs.get (by rcases hc with hc | hc <;> rw [hc] <;> nofun) (by rw [hH];nofun),hH]
      rw [hc2] at hc
      have hee:e2=e'∧HEq xs2 xs:=by
       rcases hc with hc | hc
       ·injection hc with a b;exact ⟨a.symm,b.symm⟩
       ·cases hc
      obtain ⟨rfl,hxx⟩:=hee
      obtain rfl:=eq_of_heq hxx
      have hsl:=I.slot id
      unfold SlotOk at hsl
      rw [hc2] at hsl
      have hlt:i.toNat<xs2.length:=by omega
      obtain rfl:=hA.2 (by omega)
      refine ⟨_,run E a hops _ 0 _ _ hA.1 h0 h1,?_⟩
      rw [RepF]
      exact ⟨⟨ex.1.1,rfl⟩,fun _=>⟨e2,xs2,.inl hc2,h0,hlt,by rw [hz,Nat.zero_add,Nat.add_zero]⟩⟩
     ·cases h
    ·cases h
   ·cases h
  ·rename_i g' e' xs hH
   split at h
   ·rename_i hg hz
    have hz:=beq_true hz
    have hg:=beq_true hg
    split at h
    ·rename_i h0
     split at h
     ·rename_i h1
      refine ⟨_,h,QOk.val fun B E a I hs hops=>?_⟩
      have ex:=hops x (by simp [Op.operands,ho])
      rw [hx,RepF] at ex
      have hgen:(E.H id).g=g':=by rw [(hs id).1,hH]
      obtain ⟨e2,xs2,hc,A,hA⟩:=ex.2 (by rw [hgen,hg])
      have hc2:(E.H id).c=.frz e' xs:=by rw [hs.get (by rcases hc with hc | hc <;> rw [hc] <;> nofun) (by rw [hH];nofun),hH]
      rw [hc2] at hc
      have hee:e2=e'∧HEq xs2 xs:=by
       rcases hc with hc | hc
       ·cases hc
       ·injection hc with a b;exact ⟨a.symm,b.symm⟩
      obtain ⟨rfl,hxx⟩:=hee
      obtain rfl:=eq_of_heq hxx
      have hsl:=I.slot id
      unfold SlotOk at hsl
      rw [hc2] at hsl
      have hlt:i.toNat<xs2.length:=by omega
      obtain ⟨A',c',hA',hc',hroom,hne⟩:=rep_lst (hsl A hA.2)
      injection hA' with q1 q2 q3
      subst q1
      obtain ⟨b,p,hA2,hS,he,hlw⟩:=hne (by intro h';rw [h'] at hlt;simp at hlt)
      have hA1:=hA.1
      rw [hA2] at hA1
      refine ⟨_,run E a hops b p _ _ hA1 h0 h1,?_⟩
      rw [RepF]
      refine ⟨b,p+i.toNat*szE T e,by rw [Nat.add_zero],⟨hS,plain_of (by rw [←hA2];exact hroom) (by omega),fun j y hj cv hcv=>hlw i.toNat _ (rd_some T e2 xs2 i hlt) j y hj cv (by rw [hz,Nat.add_assoc] at hcv;exact hcv)⟩,h0,hlt,fun j y hj=>?_⟩
      obtain ⟨cv,h2,h3⟩:=he i.toNat _ (rd_some T e2 xs2 i hlt) j y hj
      exact ⟨cv,by rw [hz,Nat.add_assoc];exact h2,h3⟩
     ·cases h
    ·cases h
   ·cases h
  ·cases h
 ·cases h
end
end Go.Proofs.YtggmgmkhohmfiaaGreat.PE
namespace Go.Proofs.YtggmgmkhohmfiaaGreat.PE
noncomputable section
set_option linter.unusedVariables false
open Go Go.RowKit
variable {T:Tbl} {R:Type}
theorem oneC_cells {v:Value} (h:oneC v=true):v.cells=#[v]:=by cases v <;> first | rfl | cases h
theorem oneC' {v:Value} (h:oneC v=true):v.oneCell'=true:=by cases v <;> first | rfl | cases h
theorem cellOk_one {E:Env T} {c:FV T} {v:Value} (h:RepF E c v) (hc:cellOk c=true):oneC v=true:=by
 cases c with
 | d x=>rw [RepF] at h;exact h.one
 | lit b=>rw [RepF] at h;rw [h];rfl
 | prp p i=>rw [RepF] at h;rw [h];rfl
 | agg cs=>cases hc
 | tup cs=>cases hc
 | own id g=>rw [RepF] at h;exact h.1.2
 | oel id g i off=>rw [RepF] at h;exact h.1.2
 | ptr id g off=>rw [RepF] at h;exact h.1.2
 | elp e xs i off=>rw [RepF] at h;obtain ⟨b,o,rfl,_⟩:=h;rfl
 | clo f cs=>rw [RepF] at h;obtain ⟨vs,rfl,_⟩:=h;rfl
 | nil=>rw [RepF] at h;obtain ⟨A,rfl⟩:=h;rfl
 | non=>cases hc
theorem boxL_ok {E:Env T} {v:FV T} {cv:Value} {cs:List (FV T)} (h:boxL v=some cs) (hv:RepF E v cv):(∀c∈cs,cellOk c=true)∧RepL E cs cv.cells.toList∧((∃l,v=.agg l∧l=cs)∨(cs.length=1∧oneC cv=true)):=by
 unfold boxL at h
 split at h
 ·rename_i l
  split at h
  ·rename_i hall
   obtain rfl:=Option.some.inj h
   rw [RepF] at hv
   obtain ⟨vs,rfl,hr⟩:=hv
   exact ⟨by simpa using hall,hr,.inl ⟨l,rfl,rfl⟩⟩
  ·cases h
 ·split at h
  ·rename_i hc
   obtain rfl:=Option.some.inj h
   have h1:=cellOk_one hv hc
   refine ⟨by intro c hc';rw [List.mem_singleton] at hc';rw [hc'];exact hc,?_,.inr ⟨rfl,h1⟩⟩
   rw [oneC_cells h1]
   rw [RepL]
   exact ⟨cv,[],rfl,hv,by rw [RepL]⟩
  ·cases h
theorem box_env {B:Base} {E:Env T} (I:InvE B E) {d g:Nat} {cs:List (FV T)} {arr:Array Value} (t:TypeId) (hg:(E.H d).g=g∧(E.H d).c=.none) (hdb:d<HB) (hc:∀c∈cs,cellOk c=true) (hr:RepL E cs arr.toList):
  ∃E',E'.w=E.w.alloc (.cells arr t)∧E'.H=upd E.H d ⟨g,.box cs⟩∧EnvLe E E'∧InvE B E'∧RepF E' (.ptr d g 0) (.pointer (some ⟨E.w.heap.size,0,none⟩)):=by
 have hle:=le_alloc (c:=.box cs) arr t 0 (.inl hg) I.slt E.w rfl
 refine ⟨⟨E.w.alloc (.cells arr t),E.S,upd E.η d E.w.heap.size,upd E.κ d 0,upd E.H d ⟨g,.box cs⟩⟩,rfl,rfl,hle,inv_alloc I arr t 0 (.inl hg) (.inl hdb) (fun ⟨_,_,h⟩=>by cases h) E.w rfl rfl rfl rfl ?_,?_⟩
 ·unfold SlotOk
  show match (upd E.H d (⟨g,.box cs⟩:Slot T) d).c with | .none=>_ | .box cs=>_ | .row e xs=>_ | .frz e xs=>_
  rw [upd_same]
  refine ⟨hc,arr,t,?_,RepL.mono hle _ _ hr⟩
  show (E.w.heap.push _)[upd E.η d E.w.heap.size d]?=_
  rw [upd_same]
  exact Array.getElem?_push_size
 ·rw [RepF]
  refine ⟨⟨?_,rfl⟩,fun _=>⟨cs,?_,?_⟩⟩
  ·show g≤(upd E.H d (⟨g,.box cs⟩:Slot T) d).g
   rw [upd_same];exact Nat.le_refl _
  ·show (upd E.H d (⟨g,.box cs⟩:Slot T) d).c=_
   rw [upd_same]
  ·show _=Value.pointer (some ⟨upd E.η d E.w.heap.size d,0,none⟩)
   rw [upd_same]
theorem isNone_eq {c:Cont T} (h:isNone c=true):c=.none:=by cases c <;> first | rfl | cases h
theorem sub_none {HD H:Nat→Slot T} (h:Sub HD H) {d:Nat} (hn:(HD d).c=.none):(HD d).g=(H d).g∧(HD d).c=.none:=⟨(h d).1,hn⟩
theorem q_box {P:Program} {o:Oper} {s:St T} {t:TypeId} {x:Operand} {d:Nat} (ho:o.op=.box t x) (hn:isNone (s.h d).c=true) (hdb:d<HB) {cs:List (FV T)} (h:boxL (ev s x)=some cs):
  QOk P o s (.ptr d (s.h d).g 0) (some (d,.box cs)):=by
 intro B E a I hs hδ hops next Q k
 have hx:=hops x (by simp [Op.operands,ho])
 obtain ⟨h1,h2,_⟩:=boxL_ok h hx
 have hg:=sub_none hs (hδ d _ rfl)
 obtain ⟨E',hw,hH,hle,hI,hr⟩:=box_env (arr:=(a.eval x).cells) I t hg hdb h1 h2
 have hrun:(execOp a.eval o).run P E.w=.ok (.value (.pointer (some ⟨E.w.heap.size,0,none⟩))) (E.w.alloc (.cells (a.eval x).cells t)):=by
  simp [execOp,ho,Instr.box,newVar,newRow]
 refine wp_value hrun ?_
 rw [←hw]
 refine k E' _ hle hI hr ?_
 rw [hH]
 show _=upd E.H d ⟨(E.H d).g,.box cs⟩
 rw [hg.1]
theorem zero_cells {P:Program} (hT:TblOk P T) {t:TypeId} {e:E} (ht:T.ety t=some e) (E:Env T):∃i z,P.info? t=some i∧i.size=szE T e∧i.zero=some z∧z.cells.size=szE T e∧RepL E ((cellsE T e (dft T e)).map zeroF) z.cells.toList:=by
 obtain ⟨i,z,h1,h2,h3,h4,h5,_⟩:=(hT.ty t e ht).info
 refine ⟨i,z,h1,h2,h3,h4,RepL.mk ?_ fun j c v hj hv=>?_⟩
 ·rw [List.length_map,cells_len hT,←h4];simp
 ·rw [List.getElem?_map] at hj
  obtain ⟨y,hy,rfl⟩:=Option.map_eq_some_iff.1 hj
  obtain ⟨cv,h6,h7⟩:=h5 j y hy
  rw [Array.getElem?_toList,h6] at hv
  rw [←Option.some.inj hv]
  exact h7.2 E
theorem q_alloc {P:Program} (hT:TblOk P T) {o:Oper} {s:St T} {t:TypeId} {d:Nat} {e:E} (ho:o.op=.alloc t) (ht:T.ety t=some e) (hn:isNone (s.h d).c=true) (hdb:d<HB):
  QOk P o s (.ptr d (s.h d).g 0) (some (d,.box ((cellsE T e (dft T e)).map zeroF))):=by
 intro B E a I hs hδ hops next Q k
 have hg:=sub_none hs (hδ d _ rfl)
 obtain ⟨i,z,h1,h2,h3,h4,h5⟩:=zero_cells hT ht E
 obtain ⟨E',hw,hH,hle,hI,hr⟩:=box_env (arr:=z.cells) I t hg hdb (by
  intro c hc
  obtain ⟨y,_,rfl⟩:=List.mem_map.1 hc
  cases y <;> rfl) h5
 have hrun:(execOp a.eval o).run P E.w=.ok (.value (.pointer (some ⟨E.w.heap.size,0,none⟩))) (E.w.alloc (.cells z.cells t)):=by
  simp [execOp,ho,Instr.alloc,zeroValue,typeInfo,h1,h3,newVar,newRow]
 refine wp_value hrun ?_
 rw [←hw]
 refine k E' _ hle hI hr ?_
 rw [hH]
 show _=upd E.H d ⟨(E.H d).g,.box _⟩
 rw [hg.1]
theorem row_env {P:Program} (hT:TblOk P T) {B:Base} {E:Env T} (I:InvE B E) {d g:Nat} {e:Ty} {xs:List (Den T.ST e)} {arr:Array Value} (t:TypeId) (c:Nat) (hg:((E.H d).g=g∧(E.H d).c=.none)∨(E.H d).g<g)
  (hcm:c≤maxLen∧d<HR) (hl:xs.length≤c) (hz:arr.size=c*szE T e) (he:Elems T E.w E.S e xs (fun k=>arr[k]?)) (hk:T.str e=true→Rest T e xs.length c (fun k=>arr[k]?)) (W:World) (hW:W.heap=E.w.heap) (ho:W.os=E.w.os) (ht:W.tape=E.w.tape) (hu:W.output=E.w.output):
  ∃E',E'.w=W.alloc (.cells arr t)∧E'.H=upd E.H d ⟨g,.row e xs⟩∧EnvLe E E'∧InvE B E'∧RepF E' (.own d g) (.slice (some ⟨E.w.heap.size,0,none⟩) xs.length c):=by
 have hle:=le_alloc (c:=.row e xs) arr t c hg I.slt W hW
 refine ⟨⟨W.alloc (.cells arr t),E.S,upd E.η d E.w.heap.size,upd E.κ d c,upd E.H d ⟨g,.row e xs⟩⟩,rfl,rfl,hle,inv_alloc I arr t c hg (.inr (fun _ h=>by cases h)) (fun _=>hcm) W hW ho ht hu ?_,?_⟩
 ·unfold SlotOk
  show match (upd E.H d (⟨g,.row e xs⟩:Slot T) d).c with | .none=>_ | .box cs=>_ | .row e xs=>_ | .frz e xs=>_
  rw [upd_same]
  show xs.length≤upd E.κ d c d∧(upd E.κ d c d≠0→_)
  rw [upd_same]
  refine ⟨hl,fun _=>⟨arr,t,?_,?_,fun hst=>?_,he.mono hle.bl⟩⟩
  ·show (W.heap.push _)[upd E.η d E.w.heap.size d]?=_
   rw [upd_same,←hW]
   exact Array.getElem?_push_size
  ·show arr.size=upd E.κ d c d*szE T e
   rw [upd_same];exact hz
  ·show Kinds T e (upd E.κ d c d) _
   rw [upd_same];exact kinds_of hT he (hk hst)
 ·rw [RepF]
  refine ⟨⟨?_,rfl⟩,fun _=>⟨e,xs,.inl ?_,some ⟨E.w.heap.size,0,none⟩,?_,?_⟩⟩
  ·show g≤(upd E.H d (⟨g,.row e xs⟩:Slot T) d).g
   rw [upd_same];exact Nat.le_refl _
  ·show (upd E.H d (⟨g,.row e xs⟩:Slot T) d).c=_
   rw [upd_same]
  ·show _=Value.slice _ _ (upd E.κ d c d)
   rw [upd_same]
  ·intro _
   show _=some (⟨upd E.η d E.w.heap.size d,0,none⟩:Addr)
   rw [upd_same]
theorem made_get (z:Array Value) (n k:Nat) (hk:k<n):(madeCells z n)[k]?=some z[k % z.size]! :=by
 unfold madeCells
 rw [Array.getElem?_map,Array.getElem?_range,if_pos hk]
 rfl
theorem guardD_some {o:Option Tmp} {d:Nat} (h:guardD o=some d):o=some d∧d<HR:=by
 unfold guardD at h
 split at h
 ·split at h
  ·rename_i hb
   obtain rfl:=Option.some.inj h
   exact ⟨rfl,Nat.lt_of_lt_of_le (Nat.le_of_ble_eq_true hb) (by decide:HB≤HR)⟩
  ·cases h
 ·cases h
theorem q_make {P:Program} (hT:TblOk P T) {o:Oper} {s:St T} {t:TypeId} {x y:Operand} {d:Nat} {e:E} {n m:Int} (hdr:d<HR) (ho:o.op=.makeSlice t x y) (ht:T.ety t=some (.lst e)) (hn:isNone (s.h d).c=true)
  (hx:ev s x=.d (.int .i64 n)) (hy:ev s y=.d (.int .i64 m)) (h0:0≤n) (h1:n≤m) (h2:m≤(T.bnd e:Int)):
  QOk P o s (.own d (s.h d).g) (some (d,.row e (List.replicate n.toNat (dft T e)))):=by
 intro B E a I hs hδ hops next Q k
 have hg:=sub_none hs (hδ d _ rfl)
 obtain ⟨dd,hu,t',rfl,ht'⟩:=(hT.ty _ _ ht).desc
 obtain ⟨i,z,i1,i2,i3,i4,i5,i6,i7⟩:=(hT.ty _ _ ht').info
 have e1:=hops x (by simp [Op.operands,ho])
 have e2:=hops y (by simp [Op.operands,ho])
 rw [hx,RepF] at e1
 rw [hy,RepF] at e2
 have hb:m.toNat*i.bytes≤140737488355328:=Nat.le_trans (Nat.mul_le_mul_right _ (by omega)) i6
 have hb2:(i.bytes:Int)*m≤140737488355328:=by
  have e3:((m.toNat*i.bytes:Nat):Int)=(i.bytes:Int)*m:=by rw [Int.natCast_mul,Int.toNat_of_nonneg (Int.le_trans h0 h1),Int.mul_comm]
  rw [←e3]
  exact Int.ofNat_le.2 hb
 have hm:m≤140737488355328:=by
  have:m.toNat*1≤m.toNat*i.bytes:=Nat.mul_le_mul_left _ i7
  omega
 have hpos:=(hT.ty _ _ ht').pos
 obtain ⟨E',hw,hH,hle,hI,hr⟩:=row_env (xs:=List.replicate n.toNat (dft T e)) (arr:=madeCells z.cells (m.toNat*i.size)) hT I t' m.toNat (.inl hg) ⟨by show m.toNat≤2 ^ 63 - 1;omega,hdr⟩ (by rw [List.length_replicate];omega) (by rw [size_madeCells,i2])
  (by
   intro j x hj p y hp
   have hj':j<n.toNat:=by
    rcases Nat.lt_or_ge j n.toNat with h | h
    ·exact h
    ·rw [List.getElem?_eq_none (by simpa using h)] at hj;cases hj
   rw [List.getElem?_replicate,if_pos hj'] at hj
   obtain rfl:=Option.some.inj hj
   obtain ⟨cv,h6,h7⟩:=i5 p y hp
   have hp':p<szE T e:=by
    rcases Nat.lt_or_ge p (cellsE T e (dft T e)).length with h | h
    ·rw [cells_len hT] at h;exact h
    ·rw [List.getElem?_eq_none h] at hp;cases hp
   have hlt:j*szE T e+p<m.toNat*i.size:=by
    rw [i2]
    have:(j+1)*szE T e≤m.toNat*szE T e:=Nat.mul_le_mul_right _ (by omega)
    rw [Nat.succ_mul] at this
    omega
   refine ⟨cv,?_,h7.1 _ _⟩
   show (madeCells z.cells (m.toNat*i.size))[j*szE T e+p]?=some cv
   rw [made_get _ _ _ hlt,i4,Nat.mul_comm,Nat.mul_add_mod,Nat.mod_eq_of_lt hp']
   rw [←h6]
   simp [getElem!_def,h6])
  (by
   intro _ j _ hj' p y hp
   obtain ⟨cv,h6,h7⟩:=i5 p y hp
   have hp':p<szE T e:=by
    rcases Nat.lt_or_ge p (cellsE T e (dft T e)).length with h | h
    ·rw [cells_len hT] at h;exact h
    ·rw [List.getElem?_eq_none h] at hp;cases hp
   have hlt:j*szE T e+p<m.toNat*i.size:=by
    rw [i2]
    have:(j+1)*szE T e≤m.toNat*szE T e:=Nat.mul_le_mul_right _ (by omega)
    rw [Nat.succ_mul] at this
    omega
   refine ⟨cv,?_,rep_kd (h7.1 E.w E.S)⟩
   show (madeCells z.cells (m.toNat*i.size))[j*szE T e+p]?=some cv
   rw [made_get _ _ _ hlt,i4,Nat.mul_comm,Nat.mul_add_mod,Nat.mod_eq_of_lt hp']
   rw [←h6]
   simp [getElem!_def,h6]) E.w rfl rfl rfl rfl
 have hrun:(execOp a.eval o).run P E.w=.ok (.value (.slice (some ⟨E.w.heap.size,0,none⟩) n.toNat m.toNat)) (E.w.alloc (.cells (madeCells z.cells (m.toNat*i.size)) t')):=by
  simp only [execOp,ho,rep_int.1 e1,rep_int.1 e2]
  rw [Sem.run_bind,run_make E.w t t' i z hu i1 i3 .i64 .i64 n m h0 h1 (by omega) (by omega)]
  rfl
 refine wp_value hrun ?_
 rw [←hw]
 rw [List.length_replicate] at hr
 refine k E' _ hle hI hr ?_
 rw [hH]
 show _=upd E.H d ⟨(E.H d).g,.row _ _⟩
 rw [hg.1]
end
end Go.Proofs.YtggmgmkhohmfiaaGreat.PE
namespace Go.Proofs.YtggmgmkhohmfiaaGreat.PE
noncomputable section
set_option linter.unusedVariables false
open Go Go.RowKit
variable {T:Tbl} {R:Type}
def isOwn:FV T→Bool | .own _ _=>true | _=>false
theorem dyn1_rep {E:Env T} {h:Nat→Slot T} {v:FV T} {cv:Value} {y:Dyn T.ST} (hy:dyn1 h v=some y) (hn:isOwn v=false) (hv:RepF E v cv):Rep T E.w E.S y cv:=by
 cases v with
 | d x=>obtain rfl:=Option.some.inj hy;rw [RepF] at hv;exact hv
 | lit b=>obtain rfl:=Option.some.inj hy;rw [RepF] at hv;exact rep_bool.2 hv
 | prp p i=>obtain rfl:=Option.some.inj hy;rw [RepF] at hv;exact rep_bool.2 hv
 | own id g=>cases hn
 | nil=>
  obtain rfl:=Option.some.inj hy
  rw [RepF] at hv
  obtain ⟨A,rfl⟩:=hv
  exact rep_nil.2 ⟨A,rfl⟩
 | _=>cases hy
theorem frz1_row {h:Nat→Slot T} {id g:Nat} {e:E} {xs:List (Den T.ST e)} (hH:h id=⟨g,.row e xs⟩):frz1 h (.own id g)=upd h id ⟨g,.frz e xs⟩:=by
 unfold frz1
 simp only [hH,Nat.beq_eq_true_eq,show Nat.beq g g=true from Nat.beq_refl g]
theorem frz1_id {h:Nat→Slot T} {id g:Nat} (hH:¬∃e xs,h id=⟨g,.row e xs⟩):frz1 h (.own id g)=h:=by
 unfold frz1
 simp only
 split
 ·rename_i g' e xs h1
  split
  ·rename_i hb
   have hg:=beq_true hb
   subst hg
   exact absurd ⟨e,xs,h1⟩ hH
  ·rfl
 ·rfl
theorem dyn1_own {h:Nat→Slot T} {id g:Nat} {y:Dyn T.ST} (hy:dyn1 h (.own id g)=some y):∃e xs,(h id=⟨g,.row e xs⟩∨h id=⟨g,.frz e xs⟩)∧y=.lst e xs:=by
 unfold dyn1 at hy
 simp only at hy
 split at hy
 ·rename_i g' e xs h1
  split at hy
  ·rename_i hb
   have hg:=beq_true hb
   subst hg
   exact ⟨e,xs,.inl h1,(Option.some.inj hy).symm⟩
  ·cases hy
 ·rename_i g' e xs h1
  split at hy
  ·rename_i hb
   have hg:=beq_true hb
   subst hg
   exact ⟨e,xs,.inr h1,(Option.some.inj hy).symm⟩
  ·cases hy
 ·cases hy
theorem row_inj {e e2:Ty} {xs:List (Den T.ST e)} {xs2:List (Den T.ST e2)} {c:Cont T} (hc:c=.row e xs∨c=.frz e xs) (h:c=.row e2 xs2∨c=.frz e2 xs2):(Dyn.lst e2 xs2:Dyn T.ST)=.lst e xs:=by
 rcases hc with rfl | rfl
 ·rcases h with h | h
  ·injection h with a b;subst a;rw [eq_of_heq b]
  ·cases h
 ·rcases h with h | h
  ·cases h
  ·injection h with a b;subst a;rw [eq_of_heq b]
theorem own_hdr {E:Env T} {id g:Nat} {cv:Value} {e:Ty} {xs:List (Den T.ST e)} (hv:RepF E (.own id g) cv) (hg:(E.H id).g=g) (hc:(E.H id).c=.row e xs∨(E.H id).c=.frz e xs):∃A,hdr A xs.length (E.κ id) (E.η id) cv:=by
 rw [RepF] at hv
 obtain ⟨e3,xs3,hc3,A,hA⟩:=hv.2 hg.symm
 have h:=row_inj hc hc3
 injection h with a b
 subst a
 obtain rfl:=eq_of_heq b
 exact ⟨A,hA⟩
theorem frz1_ok {B:Base} {E:Env T} (I:InvE B E) (v:FV T):∃E1,E1.w=E.w∧E1.H=frz1 E.H v∧EnvLe E E1∧InvE B E1∧∀(E2:Env T) cv y,EnvLe E1 E2→InvE B E2→RepF E v cv→dyn1 E.H v=some y→Rep T E2.w E2.S y cv:=by
 by_cases ho:isOwn v=true
 ·cases v with
  | own id g=>
   by_cases hrow:∃e xs,E.H id=⟨g,.row e xs⟩
   ·obtain ⟨e,xs,hH⟩:=hrow
    have hc0:(E.H id).c=.row e xs:=by rw [hH]
    have hg0:(E.H id).g=g:=by rw [hH]
    obtain ⟨h1,h2⟩:=inv_frz I hc0
    rw [hg0] at h1 h2
    refine ⟨⟨E.w,fun e' b=>E.S e' b∨(E.κ id≠0∧e'=e∧b=E.η id),E.η,E.κ,upd E.H id ⟨g,.frz e xs⟩⟩,rfl,(frz1_row hH).symm,h1,h2,fun E2 cv y hle hI hv hy=>?_⟩
    obtain ⟨e2,xs2,h3,rfl⟩:=dyn1_own hy
    rw [row_inj (.inl hc0) (by rcases h3 with h3 | h3 <;> rw [h3] <;> simp)]
    have hsl:=h2.slot id
    have hsl':∀A:Option Addr,(E.κ id≠0→A=some ⟨E.η id,0,none⟩)→Rep T E.w (fun e' b=>E.S e' b∨(E.κ id≠0∧e'=e∧b=E.η id)) (.lst e xs) (.slice A xs.length (E.κ id)):=by
     unfold SlotOk at hsl
     have hsl2:match (upd E.H id (⟨g,.frz e xs⟩:Slot T) id).c with | .none=>True | .box _=>True | .row _ _=>True | .frz e xs=>∀A:Option Addr,(E.κ id≠0→A=some ⟨E.η id,0,none⟩)→Rep T E.w (fun e' b=>E.S e' b∨(E.κ id≠0∧e'=e∧b=E.η id)) (.lst e xs) (.slice A xs.length (E.κ id)):=by
      revert hsl
      show (match (upd E.H id (⟨g,.frz e xs⟩:Slot T) id).c with | .none=>_ | .box cs=>_ | .row e xs=>_ | .frz e xs=>_)→_
      rw [upd_same]
      exact fun h=>h
     rw [upd_same] at hsl2
     exact hsl2
    obtain ⟨A,hA⟩:=own_hdr hv hg0 (.inl hc0)
    rw [hA.1]
    exact (hsl' A hA.2).mono hle.bl
   ·refine ⟨E,rfl,(frz1_id hrow).symm,EnvLe.refl E,I,fun E2 cv y hle hI hv hy=>?_⟩
    obtain ⟨e,xs,h3,rfl⟩:=dyn1_own hy
    have h3:=h3.resolve_left (fun h=>hrow ⟨e,xs,h⟩)
    have hsl:=I.slot id
    unfold SlotOk at hsl
    rw [h3] at hsl
    obtain ⟨A,hA⟩:=own_hdr hv (by rw [h3]) (.inr (by rw [h3]))
    rw [hA.1]
    exact (hsl A hA.2).mono hle.bl
  | _=>cases ho
 ·refine ⟨E,rfl,?_,EnvLe.refl E,I,fun E2 cv y hle _ hv hy=>(dyn1_rep hy (by simpa using ho) hv).mono hle.bl⟩
  cases v <;> first | rfl | exact absurd rfl ho
theorem frz1_dyn (h:Nat→Slot T) (c v:FV T):dyn1 (frz1 h c) v=dyn1 h v:=by
 by_cases ho:isOwn c=true
 ·cases c with
  | own id g=>
   by_cases hrow:∃e xs,h id=⟨g,.row e xs⟩
   ·obtain ⟨e,xs,hH⟩:=hrow
    rw [frz1_row hH]
    cases v with
    | own id2 g2=>
     unfold dyn1
     by_cases e':id2=id
     ·subst e';simp only [upd_same,hH]
     ·simp only [upd_other _ _ e']
    | _=>rfl
   ·rw [frz1_id hrow]
  | _=>cases ho
 ·have:frz1 h c=h:=by cases c <;> first | rfl | exact absurd rfl ho
  rw [this]
theorem frzL_ok {B:Base}:∀(cs:List (FV T)) (E:Env T),InvE B E→∃E1,E1.w=E.w∧E1.H=frzL E.H cs∧EnvLe E E1∧InvE B E1∧
  ∀(E2:Env T) c cv y,c∈cs→EnvLe E1 E2→InvE B E2→RepF E c cv→dyn1 E.H c=some y→Rep T E2.w E2.S y cv:=by
 intro cs
 induction cs with
 | nil=>intro E I;exact ⟨E,rfl,rfl,EnvLe.refl E,I,fun _ c _ _ h=>by cases h⟩
 | cons c cs ih=>
  intro E I
  obtain ⟨E1,hw,hH,hle,hI,hr⟩:=frz1_ok I c
  obtain ⟨E2,hw2,hH2,hle2,hI2,hr2⟩:=ih E1 hI
  refine ⟨E2,hw2.trans hw,by rw [hH2,hH];rfl,hle.trans hle2,hI2,fun E3 c' cv y hc hle3 hI3 hv hy=>?_⟩
  rcases List.mem_cons.1 hc with rfl | hc
  ·exact hr E3 cv y (hle2.trans hle3) hI3 hv hy
  ·exact hr2 E3 c' cv y hc hle3 hI3 (RepF.mono hle _ _ hv) (by rw [hH,frz1_dyn];exact hy)
theorem dynL_ok {E:Env T} {E2:Env T}:∀{cs:List (FV T)} {l:List (Dyn T.ST)} {vs:List Value},dynL E.H cs=some l→RepL E cs vs→(∀c cv y,c∈cs→RepF E c cv→dyn1 E.H c=some y→Rep T E2.w E2.S y cv)→
  l.length=vs.length∧∀(j:Nat) y,l[j]?=some y→∃cv,vs[j]?=some cv∧Rep T E2.w E2.S y cv:=by
 intro cs
 induction cs with
 | nil=>
  intro l vs h hr _
  rw [RepL] at hr
  subst hr
  obtain rfl:=Option.some.inj h
  exact ⟨rfl,fun j y hj=>absurd hj (by simp)⟩
 | cons c cs ih=>
  intro l vs h hr hk
  rw [RepL] at hr
  obtain ⟨v,r,rfl,h1,h2⟩:=hr
  unfold dynL at h
  split at h
  ·rename_i x xs hx hxs
   obtain rfl:=Option.some.inj h
   obtain ⟨hl,hg⟩:=ih hxs h2 (fun c' cv y hc=>hk c' cv y (List.mem_cons_of_mem _ hc))
   refine ⟨by rw [List.length_cons,List.length_cons,hl],fun j y hj=>?_⟩
   cases j with
   | zero=>simp at hj;subst hj;exact ⟨v,rfl,hk c v x List.mem_cons_self h1 hx⟩
   | succ j=>exact hg j y (by simpa using hj)
  ·cases h
theorem dyn1_cell {E:Env T} {h:Nat→Slot T} {v:FV T} {y:Dyn T.ST} {cv:Value} (hy:dyn1 h v=some y) (hv:RepF E v cv):oneC cv=true:=
 cellOk_one hv (by cases v <;> first | rfl | cases hy)
theorem cellsF_ok {E E2:Env T} {v:FV T} {cv:Value} {l:List (Dyn T.ST)} (h:cellsF E.H v=some l) (hv:RepF E v cv)
  (hk:∀c cv y,(c=v∨∃cs,v=.agg cs∧c∈cs)→RepF E c cv→dyn1 E.H c=some y→Rep T E2.w E2.S y cv):
  l.length=cv.cells.size∧(∀u∈cv.cells.toList,oneC u=true)∧∀(j:Nat) y,l[j]?=some y→∃u,cv.cells[j]?=some u∧Rep T E2.w E2.S y u:=by
 unfold cellsF at h
 split at h
 ·rename_i cs
  rw [RepF] at hv
  obtain ⟨vs,rfl,hr⟩:=hv
  obtain ⟨h1,h2⟩:=dynL_ok h hr (fun c cv y hc=>hk c cv y (.inr ⟨cs,rfl,hc⟩))
  refine ⟨by rw [h1];rfl,fun u hu=>?_,fun j y hj=>?_⟩
  ·obtain ⟨j,hj⟩:=List.mem_iff_getElem?.1 hu
   have hj':vs[j]?=some u:=hj
   have hlt:j<l.length:=by
    rw [h1]
    rcases Nat.lt_or_ge j vs.length with h | h
    ·exact h
    ·rw [List.getElem?_eq_none h] at hj';cases hj'
   obtain ⟨u',h3,h4⟩:=h2 j _ (List.getElem?_eq_getElem hlt)
   rw [hj'] at h3
   rw [Option.some.inj h3]
   exact h4.one
  ·obtain ⟨u,h3,h4⟩:=h2 j y hj
   exact ⟨u,by show vs.toArray[j]?=some u;rw [List.getElem?_toArray];exact h3,h4⟩
 ·split at h
  ·rename_i x hx
   obtain rfl:=Option.some.inj h
   have h1:=dyn1_cell hx hv
   rw [oneC_cells h1]
   refine ⟨rfl,fun u hu=>by simp at hu;rw [hu];exact h1,fun j y hj=>?_⟩
   cases j with
   | zero=>simp at hj;subst hj;exact ⟨cv,rfl,hk v cv x (.inl rfl) hv hx⟩
   | succ j=>simp at hj
  ·cases h
theorem setL_eq {α:Type _}:∀(vs:List α) (cs:List α) (off:Nat),off+vs.length≤cs.length→setL cs off vs=cs.take off++vs++cs.drop (off+vs.length):=by
 intro vs
 induction vs with
 | nil=>intro cs off _;simp [setL]
 | cons v vs ih=>
  intro cs off h
  rw [List.length_cons] at h
  rw [setL,ih _ _ (by rw [List.length_set];omega)]
  rw [List.length_cons]
  have hlt:off<cs.length:=by omega
  rw [List.take_succ_eq_append_getElem (by rw [List.length_set];exact hlt),List.getElem_set_self,List.take_set_of_le (Nat.le_refl _),List.drop_set_of_lt (by omega)]
  simp [Nat.add_assoc,Nat.add_comm 1]
theorem store_run {P:Program} {t:TypeId} {sz:Nat} (hi:∃i,P.info? t=some i∧i.size=sz) {w:World} {g p:Nat} {arr:Array Value} {tt:TypeId} (hg:w.heap[g]?=some (.cells arr tt (0,0))) {cv:Value} (hs:cv.cells.size=sz)
  (h1:∀u∈cv.cells.toList,oneC u=true) (hl:p+cv.cells.size≤arr.size):
  (Instr.storeAt t (.pointer (some ⟨g,p,none⟩)) cv).run P w=.ok () (w.setRow g (arr.toList.take p++cv.cells.toList++arr.toList.drop (p+cv.cells.toList.length)).toArray):=by
 obtain ⟨i,hi,hz⟩:=hi
 have hst:=run_storeCells_at P g p tt cv.cells.toList 0 arr w hg (by simpa using hl) (fun u hu=>oneC' (h1 u hu))
 simp only [Nat.add_zero] at hst
 simp only [Instr.storeAt,Instr.sureAddr,storeVar]
 rw [Sem.run_bind,Sem.run_pure]
 simp only [Result.andThen]
 rw [Sem.run_bind]
 simp [sizeOf,typeInfo,hi,hz,hs,hst]
theorem repL_splice {E:Env T}:∀{vs:List (FV T)} {ws:List Value} {cs:List (FV T)} {l:List Value} {off:Nat},RepL E cs l→RepL E vs ws→off+vs.length≤cs.length→RepL E (setL cs off vs) (setL l off ws):=by
 intro vs
 induction vs with
 | nil=>intro ws cs l off h hv _;rw [RepL] at hv;subst hv;exact h
 | cons v vs ih=>
  intro ws cs l off h hv hlen
  rw [RepL] at hv
  obtain ⟨w,r,rfl,h1,h2⟩:=hv
  rw [List.length_cons] at hlen
  rw [setL,setL]
  refine ih (RepL.mk (by rw [List.length_set,List.length_set,h.length]) fun i c u hc hu=>?_) h2 (by rw [List.length_set];omega)
  rw [List.getElem?_set] at hc hu
  by_cases e:off=i
  ·subst e
   have hl:=h.length
   rw [if_pos rfl,if_pos (by omega)] at hc hu
   obtain rfl:=Option.some.inj hc
   obtain rfl:=Option.some.inj hu
   exact h1
  ·rw [if_neg e] at hc hu
   obtain ⟨u',k1,k2⟩:=h.get i c hc
   rw [k1] at hu
   obtain rfl:=Option.some.inj hu
   exact k2
theorem setL_len {α:Type _}:∀(vs:List α) (cs:List α) (off:Nat),(setL cs off vs).length=cs.length:=by
 intro vs
 induction vs with
 | nil=>intro cs off;rfl
 | cons v vs ih=>intro cs off;rw [setL,ih,List.length_set]
theorem setL_arr:∀(l:List Value) (s off:Nat) (cs:Array Value),((l.zipIdx s).foldl (fun cs (x:Value×Nat)=>cs.setIfInBounds (off+x.2) x.1) cs).toList=setL cs.toList (off+s) l:=by
 intro l
 induction l with
 | nil=>intro s off cs;rfl
 | cons c l ih=>
  intro s off cs
  rw [List.zipIdx_cons,List.foldl_cons,ih,setL]
  simp [Nat.add_assoc]
theorem fill_ok {P:Program} (hT:TblOk P T) {E:Env T} {t:TypeId} {place:Nat→Option (Nat×Nat)} (hp:∀i x,T.plc t i=some x→place i=some x):∀{parts:List (Nat×FV T)} {vals:List (Nat×Value)} {cs cs':List (FV T)} {arr:Array Value},RepL E cs arr.toList→
  fillF T t cs parts=some cs'→vals.length=parts.length→(∀(j:Nat) p q,parts[j]?=some p→vals[j]?=some q→p.1=q.1∧RepF E p.2 q.2)→∃arr',Instr.fill place arr vals=some arr'∧RepL E cs' arr'.toList:=by
 intro parts
 induction parts with
 | nil=>
  intro vals cs cs' arr h hf hl _
  obtain rfl:=Option.some.inj hf
  obtain rfl:=List.length_eq_zero_iff.1 hl
  exact ⟨arr,rfl,h⟩
 | cons p parts ih=>
  intro vals cs cs' arr h hf hl hpq
  obtain ⟨i,v⟩:=p
  cases vals with
  | nil=>simp at hl
  | cons q vals=>
   obtain ⟨i',cv⟩:=q
   obtain ⟨e1,h1⟩:=hpq 0 (i,v) (i',cv) rfl rfl
   have e1:i=i':=e1
   have h1:RepF E v cv:=h1
   subst e1
   unfold fillF at hf
   split at hf
   ·rename_i o n vs hpl hbx
    split at hf
    ·rename_i hb
     rw [Bool.and_eq_true] at hb
     have hn:=beq_true hb.1
     have hle:=Nat.le_of_ble_eq_true hb.2
     obtain ⟨_,hr,_⟩:=boxL_ok (cv:=cv) hbx h1
     have hlen:=h.length
     have hvl:=hr.length
     rw [Array.length_toList] at hlen hvl
     obtain ⟨arr',a1,a2⟩:=ih (arr:=(cv.cells.toList.zipIdx 0).foldl (fun cs (x:Value×Nat)=>cs.setIfInBounds (o+x.2) x.1) arr) (vals:=vals)
      (by rw [setL_arr,Nat.add_zero];exact repL_splice h hr (by omega)) hf (by simpa using hl) (fun j p q hp hq=>hpq (j+1) p q (by simpa using hp) (by simpa using hq))
     refine ⟨arr',?_,a2⟩
     unfold Instr.fill
     simp only [hp i _ hpl]
     rw [if_neg (by simp;omega),←a1]
     congr 1
     rw [←Array.foldl_toList,Array.toList_zipIdx]
    ·cases hf
   ·cases hf
theorem places_all {P:Program}:∀(l:List Field),(∀f∈l,∃j,P.info? f.type=some j)→∃pl,l.mapM (fun f=>(P.info? f.type).map fun i=>(f.offset,i.size))=some pl∧∀(i:Nat) fd inf,l[i]?=some fd→P.info? fd.type=some inf→pl[i]?=some (fd.offset,inf.size):=by
 intro l
 induction l with
 | nil=>intro _;exact ⟨[],rfl,fun i fd inf h=>by simp at h⟩
 | cons f l ih=>
  intro h
  obtain ⟨j,hj⟩:=h f List.mem_cons_self
  obtain ⟨pl,p1,p2⟩:=ih (fun g hg=>h g (List.mem_cons_of_mem _ hg))
  refine ⟨(f.offset,j.size)::pl,by simp [List.mapM_cons,hj,p1],fun i fd inf hi hf=>?_⟩
  cases i with
  | zero=>simp at hi;subst hi;rw [hj] at hf;obtain rfl:=Option.some.inj hf;rfl
  | succ i=>exact p2 i fd inf (by simpa using hi) hf
theorem q_build {P:Program} (hT:TblOk P T) {o:Oper} {s:St T} {t:TypeId} {parts:Array (Nat×Operand)} {e:E} {cs:List (FV T)} {x0:Nat×Nat} (ho:o.op=.build t parts) (ht:T.ety t=some e) (h0:T.plc t 0=some x0)
  (h:fillF T t ((cellsE T e (dft T e)).map zeroF) (parts.toList.map fun p=>(p.1,ev s p.2))=some cs):Q0 P o s (.agg cs):=by
 refine fun B E a _ hops=>?_
 obtain ⟨i,z,h1,h2,h3,h4,h5⟩:=zero_cells hT ht E
 have hpq:∀(j:Nat) p q,(parts.toList.map fun p=>(p.1,ev s p.2))[j]?=some p→(parts.toList.map fun p=>(p.1,a.eval p.2))[j]?=some q→p.1=q.1∧RepF E p.2 q.2:=by
  intro j p q hp hq
  rw [List.getElem?_map] at hp hq
  obtain ⟨x,hx,rfl⟩:=Option.map_eq_some_iff.1 hp
  rw [hx] at hq
  obtain rfl:=Option.some.inj hq
  refine ⟨rfl,hops x.2 ?_⟩
  simp only [Op.operands,ho]
  show x.2∈parts.toList.map (·.2)
  exact List.mem_map.2 ⟨x,List.mem_of_getElem? hx,rfl⟩
 have fin:∀arr,P.built t (parts.toList.map fun p=>(p.1,a.eval p.2))=some arr→RepL E cs arr.toList→∃cv,(execOp a.eval o).run P E.w=.ok (.value cv) E.w∧RepF E (.agg cs) cv:=by
  intro arr hb hr
  refine ⟨.agg arr,?_,by rw [RepF];exact ⟨arr.toList,by simp,hr⟩⟩
  have:=run_build (P:=P) E.w t (parts.map fun (i,x)=>(i,a.eval x)) arr (by
   rw [show (parts.map fun (i,x)=>(i,a.eval x)).toList=parts.toList.map fun p=>(p.1,a.eval p.2) from by rw [Array.toList_map]];exact hb)
  simp only [execOp,ho]
  rw [Sem.run_bind,this]
  rfl
 obtain ⟨o0,n0⟩:=x0
 rcases hT.plc t 0 o0 n0 h0 with ⟨fs,_,_,hu,_,_,_,_,hall⟩ | ⟨k,et,ie,hu,hie,_,_,_⟩
 ·obtain ⟨pl,p1,p2⟩:=places_all fs.toList hall
  obtain ⟨arr,a1,a2⟩:=fill_ok hT (E:=E) (place:=(pl.toArray[·]?)) (arr:=z.cells) (vals:=parts.toList.map fun p=>(p.1,a.eval p.2)) (fun i x hx=>by
   obtain ⟨o,n⟩:=x
   rcases hT.plc t i o n hx with ⟨fs',fd,inf,k1,k2,rfl,k4,rfl,_⟩ | ⟨_,_,_,k1,_⟩
   ·rw [hu] at k1
    injection k1 with k1
    injection k1 with k1
    subst k1
    rw [List.getElem?_toArray]
    exact p2 i fd inf (by rw [Array.getElem?_toList];exact k2) k4
   ·rw [hu] at k1;cases k1) h5 h (by rw [List.length_map,List.length_map]) hpq
  refine fin arr ?_ a2
  unfold Program.built
  simp only [h1,hu,h3,p1]
  exact a1
 ·obtain ⟨arr,a1,a2⟩:=fill_ok hT (E:=E) (place:=(fun i=>some (i*ie.size,ie.size))) (arr:=z.cells) (vals:=parts.toList.map fun p=>(p.1,a.eval p.2)) (fun i x hx=>by
   obtain ⟨o,n⟩:=x
   rcases hT.plc t i o n hx with ⟨_,_,_,k1,_⟩ | ⟨k',e',inf,k1,k2,rfl,rfl,_⟩
   ·rw [hu] at k1;cases k1
   ·rw [hu] at k1
    injection k1 with k1
    injection k1 with k0 k1
    subst k1
    rw [hie] at k2
    obtain rfl:=Option.some.inj k2
    rfl) h5 h (by rw [List.length_map,List.length_map]) hpq
  refine fin arr ?_ a2
  unfold Program.built
  simp only [h1,hu,h3,hie]
  exact a1
end
end Go.Proofs.YtggmgmkhohmfiaaGreat.PE
namespace Go.Proofs.YtggmgmkhohmfiaaGreat.PE
noncomputable section
set_option linter.unusedVariables false
open Go Go.RowKit
variable {T:Tbl} {R:Type}
theorem RepL.append {E:Env T}:∀{a b:List (FV T)} {x y:List Value},RepL E a x→RepL E b y→RepL E (a++b) (x++y):=by
 intro a
 induction a with
 | nil=>intro b x y h k;rw [RepL] at h;subst h;exact k
 | cons c cs ih=>
  intro b x y h k
  rw [RepL] at h
  obtain ⟨v,r,rfl,h1,h2⟩:=h
  rw [List.cons_append,List.cons_append,RepL]
  exact ⟨v,r++y,rfl,h1,ih h2 k⟩
theorem RepL.take {E:Env T} (n:Nat):∀{a:List (FV T)} {x:List Value},RepL E a x→RepL E (a.take n) (x.take n):=by
 induction n with
 | zero=>intro a x _;simp only [List.take_zero,RepL]
 | succ n ih=>
  intro a x h
  cases a with
  | nil=>rw [RepL] at h;subst h;simp only [List.take_nil,RepL]
  | cons c cs=>
   rw [RepL] at h
   obtain ⟨v,r,rfl,h1,h2⟩:=h
   rw [List.take_succ_cons,List.take_succ_cons,RepL]
   exact ⟨v,r.take n,rfl,h1,ih h2⟩
theorem RepL.drop {E:Env T} (n:Nat):∀{a:List (FV T)} {x:List Value},RepL E a x→RepL E (a.drop n) (x.drop n):=by
 induction n with
 | zero=>intro a x h;exact h
 | succ n ih=>
  intro a x h
  cases a with
  | nil=>rw [RepL] at h;subst h;simp only [List.drop_nil,RepL]
  | cons c cs=>
   rw [RepL] at h
   obtain ⟨v,r,rfl,h1,h2⟩:=h
   exact ih h2
theorem splice_get {α:Type _} (l vs:List α) (p k:Nat) (h:p+vs.length≤l.length):(l.take p++vs++l.drop (p+vs.length))[k]?=if k<p then l[k]? else if k<p+vs.length then vs[k - p]? else l[k]?:=by
 have hl:(l.take p).length=p:=by rw [List.length_take];omega
 by_cases h1:k<p
 ·rw [if_pos h1,List.append_assoc,List.getElem?_append_left (by omega),List.getElem?_take_of_lt h1]
 ·rw [if_neg h1]
  by_cases h2:k<p+vs.length
  ·rw [if_pos h2,List.append_assoc,List.getElem?_append_right (by omega),hl,List.getElem?_append_left (by omega)]
  ·rw [if_neg h2,List.getElem?_append_right (by rw [List.length_append];omega),List.length_append,hl,List.getElem?_drop]
   congr 1
   omega
theorem lay_size {P:Program} (hT:TblOk P T) {E:Env T} {t:TypeId} {x:FV T} {cv:Value} {n:Nat} (h:Nat.beq (T.lay t) (match x with | .agg _=>n+2 | _=>1)=true)
  (h1:(∃l,x=.agg l)∨n=1) (hs:cv.cells.size=n):∃i,P.info? t=some i∧i.size=cv.cells.size:=by
 have h:=beq_true h
 cases x with
 | agg l=>obtain ⟨_,_,_,i,hi,hz⟩:=hT.layn t n h;exact ⟨i,hi,by rw [hz,hs]⟩
 | _=>
  obtain ⟨_,_,_,i,hi,hz⟩:=hT.lay1 t h
  rcases h1 with ⟨l,h1⟩ | h1
  ·cases h1
  ·exact ⟨i,hi,by rw [hz,hs,h1]⟩
theorem l_store {P:Program} (hT:TblOk P T) {o:Oper} {s:St T} {t:TypeId} {a x:Operand} (ho:o.op=.store t a x) {K:(Nat→Slot T)→Option R} {r:R}
  (h:storeK T t s.h (ev s a) (ev s x) K=some r):∃h',K h'=some r∧LOk P o s .non h':=by
 have fin:∀(E:Env T) (a':Act) (W:World) (next:Act→World→Prop) (Q:Exit→Act→World→Prop),(Instr.storeAt t (a'.eval a) (a'.eval x)).run P E.w=.ok () W→next (a'.put o.dst undef) W→Oper.wp P o a' E.w next Q:=by
  intro E a' W next Q hrun hk
  refine wp_skip' ?_ hk
  simp only [execOp,ho]
  rw [Sem.run_bind,hrun]
  rfl
 unfold storeK at h
 split at h
 ·rename_i id g off hev
  split at h
  ·rename_i g' cs hH
   split at h
   ·rename_i vs hb hvs
    have hg:=beq_true hb
    subst hg
    split at h
    ·rename_i hle hlay
     have hle:=Nat.le_of_ble_eq_true hle
     refine ⟨_,h,fun B E a' I hE hops next Q k=>?_⟩
     have ea:=hops a (by simp [Op.operands,ho])
     have ex:=hops x (by simp [Op.operands,ho])
     rw [hev,RepF] at ea
     have hH':E.H id=⟨g,.box cs⟩:=by rw [hE,hH]
     obtain ⟨cs2,hc2,hav⟩:=ea.2 (by rw [hH'])
     obtain ⟨v1,v2,v3⟩:=boxL_ok hvs ex
     have hvl:=v2.length
     have hsl:=I.slot id
     unfold SlotOk at hsl
     rw [hH'] at hsl
     obtain ⟨s1,arr,tt,s2,s3⟩:=hsl
     have hal:=s3.length
     have hsize:(a'.eval x).cells.size=vs.length:=by rw [←hvl];simp
     obtain ⟨i,hi,hz⟩:=lay_size (cv:=a'.eval x) (E:=E) hT hlay (by rcases v3 with ⟨l,h1,_⟩ | ⟨h1,_⟩;exact .inl ⟨l,h1⟩;exact .inr h1) hsize
     have hone:∀u∈(a'.eval x).cells.toList,oneC u=true:=by
      intro u hu
      obtain ⟨j,hj⟩:=List.mem_iff_getElem?.1 hu
      have hlt:j<vs.length:=by
       rw [←hvl]
       rcases Nat.lt_or_ge j (a'.eval x).cells.toList.length with h | h
       ·exact h
       ·rw [List.getElem?_eq_none h] at hj;cases hj
      obtain ⟨u',h3,h4⟩:=v2.get j _ (List.getElem?_eq_getElem hlt)
      rw [hj] at h3
      rw [Option.some.inj h3]
      exact cellOk_one h4 (v1 _ (List.getElem_mem hlt))
     have hrun:=store_run (P:=P) (t:=t) ⟨i,hi,hz⟩ (p:=off) s2 rfl hone (by rw [hsize];simp at hal;omega)
     have hHas:Has E id:=.inl ⟨cs,by rw [hH']⟩
     have hall:∀c∈setL cs off vs,cellOk c=true:=by
      intro c hc
      rw [setL_eq _ _ _ hle] at hc
      rcases List.mem_append.1 hc with hc | hc
      ·rcases List.mem_append.1 hc with hc | hc
       ·exact s1 c (List.mem_of_mem_take hc)
       ·exact v1 c hc
      ·exact s1 c (List.mem_of_mem_drop hc)
     have hsh:Shape (E.H id).c (.box (setL cs off vs)):=by rw [hH'];exact ⟨_,rfl⟩
     have hoth:=setRow_other E.w (E.η id)
     have hsz:(E.w.setRow (E.η id) (arr.toList.take off++(a'.eval x).cells.toList++arr.toList.drop (off+(a'.eval x).cells.toList.length)).toArray).heap.size=E.w.heap.size:=by simp [World.setRow]
     have hle':=le_set (c:=.box (setL cs off vs)) _ hsz (I.own id hHas).1 (fun k hk=>hoth k _ hk) hsh
     have hI:=inv_set I _ hsz hHas (fun k hk=>hoth k _ hk) hsh rfl rfl rfl (by
      unfold SlotOk
      show match (upd E.H id (⟨(E.H id).g,.box (setL cs off vs)⟩:Slot T) id).c with | .none=>_ | .box cs=>_ | .row e xs=>_ | .frz e xs=>_
      rw [upd_same]
      refine ⟨hall,_,tt,setRow_heap _ _ _ _ _ _ s2,?_⟩
      have e1:arr.toList.drop (off+(a'.eval x).cells.toList.length)=arr.toList.drop (off+vs.length):=by rw [hvl]
      have base:=((RepL.mono hle' _ _ s3).take off |>.append (RepL.mono hle' _ _ v2)).append ((RepL.mono hle' _ _ s3).drop (off+vs.length))
      rw [←e1,←setL_eq _ _ _ hle] at base
      exact base)
     refine fin E a' _ next Q (by rw [hav];exact hrun) ?_
     refine k _ undef hle' hI (by rw [RepF];trivial) ?_
     show upd E.H id ⟨(E.H id).g,_⟩=_
     rw [hE,hH]
    ·cases h
   ·cases h
  ·cases h
 ·rename_i id g i off hev
  split at h
  ·rename_i g' e xs hH
   split at h
   ·rename_i vs hb hvs
    rw [Bool.and_eq_true] at hb
    have hg:=beq_true hb.1
    have hno:hasOwn [ev s x]=false:=by simpa using hb.2
    subst hg
    split at h
    ·rename_i hle hlay
     have hle:=Nat.le_of_ble_eq_true hle
     split at h
     ·rename_i y hy
      refine ⟨_,h,fun B E a' I hE hops next Q k=>?_⟩
      have ea:=hops a (by simp [Op.operands,ho])
      have ex:=hops x (by simp [Op.operands,ho])
      rw [hev,RepF] at ea
      have hH':E.H id=⟨g,.row e xs⟩:=by rw [hE,hH]
      obtain ⟨e2,xs2,hc2,i0,i1,hav⟩:=ea.2 (by rw [hH'])
      have hrr:=row_inj (.inl (by rw [hH'])) hc2
      injection hrr with q1 q2
      subst q1
      obtain rfl:=eq_of_heq q2
      rw [←hE] at hvs
      obtain ⟨v1,v2,v3⟩:=cellsF_ok (E2:=E) hvs ex (by
       intro c cv y hc hrep hd
       refine dyn1_rep hd ?_ hrep
       rcases hc with rfl | ⟨cs,hagg,hc⟩
       ·cases hx:ev s x <;> first | rfl | (rw [hx] at hno;simp [hasOwn] at hno)
       ·rw [hagg] at hno
        simp only [hasOwn] at hno
        split at hno
        ·cases hno
        ·rename_i hany
         rw [List.any_eq_false] at hany
         have:=hany c hc
         cases c <;> first | rfl | simp at this)
      have hsl:=I.slot id
      unfold SlotOk at hsl
      rw [hH'] at hsl
      obtain ⟨hl,hr⟩:=hsl
      have hκ:E.κ id≠0:=Nat.ne_of_gt (Nat.lt_of_lt_of_le (Nat.lt_of_le_of_lt (Nat.zero_le _) i1) hl)
      obtain ⟨arr,tt,s2,s3,s6,s4⟩:=hr hκ
      have hsize:(a'.eval x).cells.size=vs.length:=v1.symm
      obtain ⟨inf,hi,hz⟩:=lay_size (cv:=a'.eval x) (E:=E) hT hlay (by
       cases hx:ev s x with
       | agg l=>exact .inl ⟨l,rfl⟩
       | _=>
        right
        rw [hx] at hvs
        unfold cellsF at hvs
        simp only at hvs
        split at hvs
        ·rw [←Option.some.inj hvs];rfl
        ·cases hvs) hsize
      have hfit:i.toNat*szE T e2+off+vs.length≤arr.size:=by
       rw [s3]
       have:(i.toNat+1)*szE T e2≤E.κ id*szE T e2:=Nat.mul_le_mul_right _ (by omega)
       rw [Nat.succ_mul] at this
       omega
      have hrun:=store_run (P:=P) (t:=t) ⟨inf,hi,hz⟩ (p:=i.toNat*szE T e2+off) s2 rfl v2 (by rw [hsize];exact hfit)
      have hHas:Has E id:=.inr ⟨e2,xs2,by rw [hH'],hκ⟩
      have hsh:Shape (E.H id).c (.row e2 (xs2.set i.toNat y)):=by rw [hH'];exact ⟨_,by rw [List.length_set],.inl rfl⟩
      have hoth:=setRow_other E.w (E.η id)
      have hsz:(E.w.setRow (E.η id) (arr.toList.take (i.toNat*szE T e2+off)++(a'.eval x).cells.toList++arr.toList.drop (i.toNat*szE T e2+off+(a'.eval x).cells.toList.length)).toArray).heap.size=E.w.heap.size:=by simp [World.setRow]
      have hle':=le_set (c:=.row e2 (xs2.set i.toNat y)) _ hsz (I.own id hHas).1 (fun k hk=>hoth k _ hk) hsh
      have hcl:(a'.eval x).cells.toList.length=vs.length:=by simpa using hsize
      have hspl:∀q,((arr.toList.take (i.toNat*szE T e2+off)++(a'.eval x).cells.toList++arr.toList.drop (i.toNat*szE T e2+off+(a'.eval x).cells.toList.length)).toArray)[q]?=if q<i.toNat*szE T e2+off then arr[q]? else if q<i.toNat*szE T e2+off+vs.length then (a'.eval x).cells[q - (i.toNat*szE T e2+off)]? else arr[q]?:=by
       intro q
       rw [List.getElem?_toArray,splice_get _ _ _ _ (by rw [hcl];simpa using hfit),hcl]
       simp only [Array.getElem?_toList]
      have hD:=mkE_ok hT hy
      have hcle:=cells_len hT e2 (rdE T e2 xs2 i)
      have hI:=inv_set I _ hsz hHas (fun k hk=>hoth k _ hk) hsh rfl rfl rfl (by
       unfold SlotOk
       show match (upd E.H id (⟨(E.H id).g,.row e2 (xs2.set i.toNat y)⟩:Slot T) id).c with | .none=>_ | .box cs=>_ | .row e xs=>_ | .frz e xs=>_
       rw [upd_same]
       refine ⟨by rw [List.length_set];exact hl,fun _=>⟨_,tt,setRow_heap _ _ _ _ _ _ s2,?_,kinds_and hT ?_ ?_⟩⟩
       ·rw [←s3]
        simp
        omega
       ·intro i' x' hx' j d hd
        have hj:j<szE T e2:=by
         have:=cells_len hT e2 x'
         rcases Nat.lt_or_ge j (cellsE T e2 x').length with h | h
         ·omega
         ·rw [List.getElem?_eq_none h] at hd;cases hd
        show ∃cv,((arr.toList.take (i.toNat*szE T e2+off)++(a'.eval x).cells.toList++arr.toList.drop (i.toNat*szE T e2+off+(a'.eval x).cells.toList.length)).toArray)[i'*szE T e2+j]?=some cv∧_
        rw [hspl]
        by_cases hii:i'=i.toNat
        ·subst hii
         rw [List.getElem?_set_self i1] at hx'
         obtain rfl:=Option.some.inj hx'
         have hjl:j<(setL (cellsE T e2 (rdE T e2 xs2 i)) off vs).length:=by
          rw [hD.1]
          rcases Nat.lt_or_ge j (cellsE T e2 y).length with h | h
          ·exact h
          ·rw [List.getElem?_eq_none h] at hd;cases hd
         obtain ⟨z,hgj⟩:∃z,(setL (cellsE T e2 (rdE T e2 xs2 i)) off vs)[j]?=some z:=⟨_,List.getElem?_eq_getElem hjl⟩
         have hdl:=hD.2 j _ _ hgj hd
         have hval:=hgj
         rw [setL_eq _ _ _ (by rw [hcle];exact hle),splice_get _ _ _ _ (by rw [hcle];exact hle)] at hval
         by_cases c1:j<off
         ·rw [if_pos c1] at hval
          rw [if_pos (by omega)]
          obtain ⟨cv,h4,h5⟩:=s4 i.toNat _ (rd_some T e2 xs2 i i1) j _ hval
          exact ⟨cv,h4,(h5.mono hle'.bl).dle hdl⟩
         ·rw [if_neg c1] at hval
          by_cases c2:j<off+vs.length
          ·rw [if_pos c2] at hval
           rw [if_neg (by omega),if_pos (by omega)]
           obtain ⟨u,h4,h5⟩:=v3 _ _ hval
           refine ⟨u,?_,(h5.mono hle'.bl).dle hdl⟩
           rw [←h4]
           congr 1
           omega
          ·rw [if_neg c2] at hval
           rw [if_neg (by omega),if_neg (by omega)]
           obtain ⟨cv,h4,h5⟩:=s4 i.toNat _ (rd_some T e2 xs2 i i1) j _ hval
           exact ⟨cv,h4,(h5.mono hle'.bl).dle hdl⟩
        ·rw [List.getElem?_set_ne (fun h=>hii h.symm)] at hx'
         obtain ⟨cv,h4,h5⟩:=s4 i' x' hx' j d hd
         refine ⟨cv,?_,h5.mono hle'.bl⟩
         rcases Nat.lt_or_gt_of_ne hii with hlt | hgt
         ·have:(i'+1)*szE T e2≤i.toNat*szE T e2:=Nat.mul_le_mul_right _ (by omega)
          rw [Nat.succ_mul] at this
          rw [if_pos (by omega)]
          exact h4
         ·have:(i.toNat+1)*szE T e2≤i'*szE T e2:=Nat.mul_le_mul_right _ (by omega)
          rw [Nat.succ_mul] at this
          rw [if_neg (by omega),if_neg (by omega)]
          exact h4
       ·intro hst i' hle2 hi' j d hd
        rw [List.length_set] at hle2
        obtain ⟨cv,h4,h5⟩:=s6 hst i' hi' j d hd
        refine ⟨cv,?_,h5⟩
        show ((arr.toList.take (i.toNat*szE T e2+off)++(a'.eval x).cells.toList++arr.toList.drop (i.toNat*szE T e2+off+(a'.eval x).cells.toList.length)).toArray)[i'*szE T e2+j]?=some cv
        rw [hspl]
        have:(i.toNat+1)*szE T e2≤i'*szE T e2:=Nat.mul_le_mul_right _ (by omega)
        rw [Nat.succ_mul] at this
        rw [if_neg (by omega),if_neg (by omega)]
        exact h4)
      refine fin E a' _ next Q (by rw [hav];exact hrun) ?_
      refine k _ undef hle' hI (by rw [RepF];trivial) ?_
      show upd E.H id ⟨(E.H id).g,_⟩=_
      rw [hE,hH]
     ·cases h
    ·cases h
   ·cases h
  ·cases h
 ·cases h
end
end Go.Proofs.YtggmgmkhohmfiaaGreat.PE
namespace Go.Proofs.YtggmgmkhohmfiaaGreat.PE
noncomputable section
set_option linter.unusedVariables false
open Go Go.RowKit
variable {T:Tbl} {R:Type}
theorem frzL_dyn (h:Nat→Slot T):∀(cs:List (FV T)) (v:FV T),dyn1 (frzL h cs) v=dyn1 h v:=by
 intro cs
 induction cs generalizing h with
 | nil=>intro v;rfl
 | cons c cs ih=>intro v;rw [frzL,ih,frz1_dyn]
theorem frzV_one (h:Nat→Slot T) (c:FV T) (hc:¬∃cs,c=.agg cs):frzV h c=frz1 h c:=by
 cases c <;> first | rfl | exact absurd ⟨_,rfl⟩ hc
theorem frzV_dyn (h:Nat→Slot T) (c v:FV T):dyn1 (frzV h c) v=dyn1 h v:=by
 by_cases hc:∃cs,c=.agg cs
 ·obtain ⟨cs,rfl⟩:=hc;exact frzL_dyn h cs v
 ·rw [frzV_one h c hc];exact frz1_dyn h c v
theorem dynL_congr {h h':Nat→Slot T} (hd:∀v,dyn1 h' v=dyn1 h v):∀cs:List (FV T),dynL h' cs=dynL h cs:=by
 intro cs
 induction cs with
 | nil=>rfl
 | cons c cs ih=>rw [dynL,dynL,hd,ih]
theorem cellsF_congr {h h':Nat→Slot T} (hd:∀v,dyn1 h' v=dyn1 h v) (v:FV T):cellsF h' v=cellsF h v:=by
 cases v with
 | agg cs=>exact dynL_congr hd cs
 | _=>unfold cellsF;simp only [hd]
theorem frzV_ok {B:Base} {E:Env T} (I:InvE B E) (v:FV T):∃E1,E1.w=E.w∧E1.H=frzV E.H v∧EnvLe E E1∧InvE B E1∧
  ∀(E2:Env T) c cv y,(c=v∨∃cs,v=.agg cs∧c∈cs)→EnvLe E1 E2→InvE B E2→RepF E c cv→dyn1 E.H c=some y→Rep T E2.w E2.S y cv:=by
 by_cases hv:∃cs,v=.agg cs
 ·obtain ⟨cs,rfl⟩:=hv
  obtain ⟨E1,h1,h2,h3,h4,h5⟩:=frzL_ok cs E I
  refine ⟨E1,h1,h2,h3,h4,fun E2 c cv y hc=>?_⟩
  rcases hc with rfl | ⟨cs',he,hc⟩
  ·intro _ _ _ hy;cases hy
  ·injection he with he;subst he;exact h5 E2 c cv y hc
 ·obtain ⟨E1,h1,h2,h3,h4,h5⟩:=frz1_ok I v
  refine ⟨E1,h1,by rw [frzV_one _ _ hv];exact h2,h3,h4,fun E2 c cv y hc=>?_⟩
  rcases hc with rfl | ⟨cs',he,hc⟩
  ·exact h5 E2 cv y
  ·exact absurd ⟨cs',he⟩ hv
theorem frzFs_ok {B:Base}:∀(vs:List (FV T)) (E:Env T),InvE B E→∃E1,E1.w=E.w∧E1.H=frzFs E.H vs∧EnvLe E E1∧InvE B E1∧
  ∀(E2:Env T) v c cv y,v∈vs→(c=v∨∃cs,v=.agg cs∧c∈cs)→EnvLe E1 E2→InvE B E2→RepF E c cv→dyn1 E.H c=some y→Rep T E2.w E2.S y cv:=by
 intro vs
 induction vs with
 | nil=>intro E I;exact ⟨E,rfl,rfl,EnvLe.refl E,I,fun _ v _ _ _ h=>by cases h⟩
 | cons v vs ih=>
  intro E I
  obtain ⟨E1,hw,hH,hle,hI,hr⟩:=frzV_ok I v
  obtain ⟨E2,hw2,hH2,hle2,hI2,hr2⟩:=ih E1 hI
  refine ⟨E2,hw2.trans hw,by rw [hH2,hH];rfl,hle.trans hle2,hI2,fun E3 v' c cv y hv hc hle3 hI3 hrep hy=>?_⟩
  rcases List.mem_cons.1 hv with rfl | hv
  ·exact hr E3 c cv y hc (hle2.trans hle3) hI3 hrep hy
  ·exact hr2 E3 v' c cv y hv hc hle3 hI3 (RepF.mono hle _ _ hrep) (by rw [hH,frzV_dyn];exact hy)
theorem frzL_none (h:Nat→Slot T):∀cs:List (FV T),(cs.any (fun c=>match c with | .own _ _=>true | _=>false))=false→frzL h cs=h:=by
 intro cs
 induction cs with
 | nil=>intro _;rfl
 | cons c cs ih=>
  intro hn
  rw [List.any_cons,Bool.or_eq_false_iff] at hn
  rw [frzL,show frz1 h c=h from by cases c <;> first | rfl | (simp at hn),ih hn.2]
theorem frzFs_none (h:Nat→Slot T):∀vs:List (FV T),hasOwn vs=false→frzFs h vs=h:=by
 intro vs
 induction vs with
 | nil=>intro _;rfl
 | cons v vs ih=>
  intro hn
  rw [frzFs]
  cases v with
  | own id g=>simp [hasOwn] at hn
  | agg cs=>
   simp only [hasOwn] at hn
   split at hn
   ·cases hn
   ·rename_i hany
    rw [show frzV h (.agg cs)=h from frzL_none h cs hany]
    exact ih hn
  | _=>exact ih hn
theorem inOrder_eq:∀(l:List (Nat×Operand)) (n:Nat),inOrder n l=true→l=((l.map (·.2)).zipIdx n).map fun x=>(x.2,x.1):=by
 intro l
 induction l with
 | nil=>intro n _;rfl
 | cons p l ih=>
  intro n h
  obtain ⟨i,x⟩:=p
  unfold inOrder at h
  split at h
  ·rename_i hb
   have:=beq_true hb
   subst this
   rw [List.map_cons,List.zipIdx_cons,List.map_cons]
   rw [←ih _ h]
  ·cases h
theorem dens_ok {E E2:Env T} {e:Ty} {P:Program} (hT:TblOk P T):∀{vals:List (FV T)} {xs:List (Den T.ST e)} {cvs:List Value},dens e E.H vals=some xs→RepL E vals cvs→
  (∀v c cv y,v∈vals→(c=v∨∃cs,v=.agg cs∧c∈cs)→RepF E c cv→dyn1 E.H c=some y→Rep T E2.w E2.S y cv)→
  xs.length=cvs.length∧(∀v∈cvs,v.cells.size=szE T e∧∀u∈v.cells.toList,oneC u=true)∧∀(i:Nat) x,xs[i]?=some x→∃cv,cvs[i]?=some cv∧∀(j:Nat) y,(cellsE T e x)[j]?=some y→∃u,cv.cells[j]?=some u∧Rep T E2.w E2.S y u:=by
 intro vals
 induction vals with
 | nil=>
  intro xs cvs h hr _
  rw [RepL] at hr
  subst hr
  obtain rfl:=Option.some.inj h
  exact ⟨rfl,fun v hv=>absurd hv List.not_mem_nil,fun i x hx=>absurd hx (by simp)⟩
 | cons v vals ih=>
  intro xs cvs h hr hk
  rw [RepL] at hr
  obtain ⟨cv,r,rfl,h1,h2⟩:=hr
  unfold dens at h
  split at h
  ·rename_i x xs' hx hxs
   obtain rfl:=Option.some.inj h
   obtain ⟨i1,i2,i3⟩:=ih hxs h2 (fun v' c cv y hv=>hk v' c cv y (List.mem_cons_of_mem _ hv))
   unfold denF at hx
   split at hx
   ·rename_i l hl
    obtain ⟨c1,c2,c3⟩:=cellsF_ok (E2:=E2) hl h1 (fun c cv y hc=>hk v c cv y List.mem_cons_self hc)
    have hD:=mkE_ok hT hx
    have hsz:cv.cells.size=szE T e:=by rw [←c1,hD.1,cells_len hT]
    refine ⟨by rw [List.length_cons,List.length_cons,i1],fun u hu=>?_,fun i x' hx'=>?_⟩
    ·rcases List.mem_cons.1 hu with rfl | hu
     ·exact ⟨hsz,c2⟩
     ·exact i2 u hu
    ·cases i with
     | zero=>
      simp at hx'
      subst hx'
      refine ⟨cv,rfl,fun j y hj=>?_⟩
      have hjl:j<l.length:=by
       rw [hD.1]
       rcases Nat.lt_or_ge j (cellsE T e x).length with h | h
       ·exact h
       ·rw [List.getElem?_eq_none h] at hj;cases hj
      have hgj:=List.getElem?_eq_getElem hjl
      obtain ⟨u,h4,h5⟩:=c3 j _ hgj
      exact ⟨u,h4,h5.dle (hD.2 j _ _ hgj hj)⟩
     | succ i=>exact i3 i x' (by simpa using hx')
   ·cases hx
  ·cases h
theorem run_buildSlice0 {P:Program} (w:World) (t e:TypeId) (ie:TypeInfo) (hu:P.underlying t=some (.slice e)) (hie:P.info? e=some ie):
  (Instr.buildSlice t 0 #[]).run P w=.ok (.slice (some ⟨w.heap.size,0,none⟩) 0 0) (w.alloc (.cells #[] e)):=by
 have h0:∀f:Nat→Value,Array.map f (Array.range 0)=#[]:=fun f=>by apply Array.ext';simp
 simp [Instr.buildSlice,run_underlying hu,sizeOf,typeInfo,hie,newRow,Instr.fill,h0]
theorem build_core {P:Program} (hT:TblOk P T) {B:Base} {o:Oper} {t:TypeId} {n:Nat} {parts:Array (Nat×Operand)} {d:Nat} {e:Ty} (hdr:d<HR) (ho:o.op=.buildSlice t n parts) (ht:T.ety t=some (.lst e))
  (hn:parts.toList.length=n) (hsm:n*szE T e≤16777216) (hord:inOrder 0 parts.toList=true) {s:St T} {xs:List (Den T.ST e)} {E E1:Env T} (hd:dens e E.H (parts.toList.map fun p=>ev s p.2)=some xs) {a:Act} (hops:OpsOk E o s a)
  (hw:E1.w=E.w) (I1:InvE B E1) (hg:(E1.H d).c=.none)
  (hk:∀v c cv y,v∈(parts.toList.map fun p=>ev s p.2)→(c=v∨∃cs,v=.agg cs∧c∈cs)→RepF E c cv→dyn1 E.H c=some y→Rep T E1.w E1.S y cv):
  ∃E' cv,EnvLe E1 E'∧InvE B E'∧RepF E' (.own d (E1.H d).g) cv∧E'.H=upd E1.H d ⟨(E1.H d).g,.row e xs⟩∧(execOp a.eval o).run P E.w=.ok (.value cv) E'.w:=by
 obtain ⟨dd,hu,t',rfl,ht'⟩:=(hT.ty _ _ ht).desc
 obtain ⟨i,z,i1,i2,i3,i4,i5,i6,i7⟩:=(hT.ty _ _ ht').info
 have hpos:=(hT.ty _ _ ht').pos
 have hreps:RepL E (parts.toList.map fun p=>ev s p.2) (parts.toList.map fun p=>a.eval p.2):=by
  refine RepL.mk (by rw [List.length_map,List.length_map]) fun k c v h1 h2=>?_
  rw [List.getElem?_map] at h1 h2
  obtain ⟨p,hp,rfl⟩:=Option.map_eq_some_iff.1 h1
  rw [hp] at h2
  obtain rfl:=Option.some.inj h2
  refine hops p.2 ?_
  simp only [Op.operands,ho]
  show p.2∈parts.toList.map (·.2)
  exact List.mem_map.2 ⟨p,List.mem_of_getElem? hp,rfl⟩
 obtain ⟨d1,d2,d3⟩:=dens_ok hT hd hreps hk
 have hvl:(parts.toList.map fun p=>a.eval p.2).length=n:=by rw [List.length_map,hn]
 have hxl:xs.length=n:=by rw [d1,hvl]
 let arr:Array Value:=((parts.toList.map fun p=>a.eval p.2).flatMap fun v=>v.cells.toList).toArray
 have harr:∀k,arr[k]?=((parts.toList.map fun p=>a.eval p.2)[k / szE T e]?).bind (fun v=>v.cells[k % szE T e]?):=by
  intro k
  rw [List.getElem?_toArray]
  exact Go.Great.flat_get hpos _ (fun v hv=>(d2 v hv).1) k
 have hasz:arr.size=n*szE T e:=by
  show ((parts.toList.map fun p=>a.eval p.2).flatMap fun v=>v.cells.toList).toArray.size=_
  rw [List.size_toArray,List.length_flatMap,←hvl]
  have:∀l:List Value,(∀v∈l,v.cells.size=szE T e)→(l.map fun v=>v.cells.toList.length).sum=l.length*szE T e:=by
   intro l
   induction l with
   | nil=>intro _;simp
   | cons v l ih=>
    intro hv
    rw [List.map_cons,List.sum_cons,List.length_cons,Nat.succ_mul,ih (fun v hv'=>hv v (List.mem_cons_of_mem _ hv'))]
    have:=hv v List.mem_cons_self
    simp at this⊢
    omega
  exact this _ (fun v hv=>(d2 v hv).1)
 have hrun:(execOp a.eval o).run P E.w=.ok (.value (.slice (some ⟨E.w.heap.size,0,none⟩) n n)) (E.w.alloc (.cells arr t')):=by
  simp only [execOp,ho]
  rw [Sem.run_bind]
  have hparts:(parts.map fun (i,x)=>(i,a.eval x)).toList=((parts.toList.map fun p=>a.eval p.2).zipIdx 0).map fun x=>(x.2,x.1):=by
   have hL:parts.toList.map (fun p=>a.eval p.2)=(parts.toList.map (·.2)).map a.eval:=by rw [List.map_map];rfl
   rw [Array.toList_map,hL,List.zipIdx_map,List.map_map]
   conv=>lhs;rw [inOrder_eq _ _ hord]
   rw [List.map_map]
   rfl
  by_cases h0:n=0
  ·subst h0
   have hp0:parts.toList=[]:=List.length_eq_zero_iff.1 hn
   have hpa:parts=#[]:=by cases parts;simpa using hp0
   subst hpa
   have hm:Array.map (fun x:Nat×Operand=>(x.1,a.eval x.2)) #[]=#[]:=by simp
   rw [hm,run_buildSlice0 E.w t t' i hu i1]
   rfl
  ·have hpn:¬n*i.size=0:=by
    rw [i2]
    exact Nat.mul_ne_zero h0 (by omega)
   rw [run_buildSlice E.w t t' n _ arr i z hu i1 i3 (by rw [i2];omega) hpn (by
    rw [hparts,i2]
    exact Go.Great.fill_whole hpos _ _ (fun v hv=>(d2 v hv).1) (by rw [hvl];simp))]
   rfl
 obtain ⟨E',hw',hH',hle,hI,hr⟩:=row_env (xs:=xs) (arr:=arr) hT I1 t' n (.inl ⟨rfl,hg⟩) ⟨by have:=hpos;have:n*1≤n*szE T e:=Nat.mul_le_mul_left _ hpos;show n≤2 ^ 63 - 1;omega,hdr⟩ (Nat.le_of_eq hxl) hasz (by
  intro j x hx p y hp
  obtain ⟨cv,h1,h2⟩:=d3 j x hx
  obtain ⟨u,h3,h4⟩:=h2 p y hp
  have hp':p<szE T e:=by
   rcases Nat.lt_or_ge p (cellsE T e x).length with h | h
   ·rw [cells_len hT] at h;exact h
   ·rw [List.getElem?_eq_none h] at hp;cases hp
  refine ⟨u,?_,h4⟩
  show arr[j*szE T e+p]?=some u
  rw [harr,Nat.mul_comm,Nat.mul_add_div hpos,Nat.mul_add_mod,Nat.div_eq_of_lt hp',Nat.mod_eq_of_lt hp',Nat.add_zero,h1]
  exact h3) (fun _ i h1 h2=>absurd h2 (by omega)) E1.w rfl rfl rfl rfl
 refine ⟨E',_,hle,hI,hr,hH',?_⟩
 rw [hw',hw,hxl]
 exact hrun
end
end Go.Proofs.YtggmgmkhohmfiaaGreat.PE
namespace Go.Proofs.YtggmgmkhohmfiaaGreat.PE
noncomputable section
set_option linter.unusedVariables false
open Go Go.RowKit
variable {T:Tbl} {R:Type}
theorem inv_fill {B:Base} {E:Env T} (I:InvE B E) {d:Nat} {c:Cont T} (b κd:Nat) (hn:(E.H d).c=.none) (W:World) (hsz:E.w.heap.size≤W.heap.size) (hW:∀k,k<E.w.heap.size→k≠b→W.heap[k]?=E.w.heap[k]?)
  (hS:∀e,¬E.S e b) (hH:∀id,Has E id→E.η id≠b) (hb:B.w0.heap.size≤b∨B.M0 b) (hcb:∀cs,c≠.box cs) (hcp:κd≤maxLen∧d<HR) (ho:W.os=E.w.os) (ht:W.tape=E.w.tape) (hu:W.output=E.w.output)
  (hlt:((∃cs,c=.box cs)∨∃e xs,c=.row e xs∧κd≠0)→b<W.heap.size)
  (hs:EnvLe E ⟨W,E.S,upd E.η d b,upd E.κ d κd,upd E.H d ⟨(E.H d).g,c⟩⟩→SlotOk ⟨W,E.S,upd E.η d b,upd E.κ d κd,upd E.H d ⟨(E.H d).g,c⟩⟩ d):
  EnvLe E ⟨W,E.S,upd E.η d b,upd E.κ d κd,upd E.H d ⟨(E.H d).g,c⟩⟩∧InvE B ⟨W,E.S,upd E.η d b,upd E.κ d κd,upd E.H d ⟨(E.H d).g,c⟩⟩:=by
 have hle:EnvLe E ⟨W,E.S,upd E.η d b,upd E.κ d κd,upd E.H d ⟨(E.H d).g,c⟩⟩:=by
  refine ⟨hsz,fun e k hk=>⟨hk,hW k (I.slt e k hk) (fun e'=>hS e (e'▸hk))⟩,fun id=>?_,fun id _ hc=>?_⟩
  ·show (E.H id).g≤(upd E.H d _ id).g
   by_cases e:id=d
   ·subst e;rw [upd_same];exact Nat.le_refl _
   ·rw [upd_other _ _ e];exact Nat.le_refl _
  ·by_cases e:id=d
   ·subst e;exact absurd hn hc
   ·refine ⟨?_,(upd_other E.η _ e).symm,(upd_other E.κ _ e).symm⟩
    show Shape (E.H id).c (upd E.H d _ id).c
    rw [upd_other _ _ e]
    exact ((EnvLe.refl E).same id rfl hc).1
 have hHas:∀id,id≠d→Has (⟨W,E.S,upd E.η d b,upd E.κ d κd,upd E.H d ⟨(E.H d).g,c⟩⟩:Env T) id→Has E id:=fun id e h=>has_same (E:=E) h (upd_other _ _ e) (upd_other _ _ e)
 have hHd:Has (⟨W,E.S,upd E.η d b,upd E.κ d κd,upd E.H d ⟨(E.H d).g,c⟩⟩:Env T) d→b<W.heap.size:=by
  intro h
  apply hlt
  unfold Has at h
  rcases h with ⟨cs,h⟩ | ⟨e,xs,h,hk⟩
  ·have h':(upd E.H d (⟨(E.H d).g,c⟩:Slot T) d).c=.box cs:=h
   rw [upd_same] at h'
   exact .inl ⟨cs,h'⟩
  ·have h':(upd E.H d (⟨(E.H d).g,c⟩:Slot T) d).c=.row e xs:=h
   have hk':upd E.κ d κd d≠0:=hk
   rw [upd_same] at h' hk'
   exact .inr ⟨e,xs,h',hk'⟩
 refine ⟨hle,?_,?_,?_,?_,?_,I.s0,I.s1,ho.trans I.os,ht.trans I.tape,hu.trans I.output,Nat.le_trans I.size hsz,?_,?_,?_⟩
 ·intro id
  by_cases e:id=d
  ·subst e;exact hs hle
  ·exact slot_mono hle (upd_other _ _ e) (upd_other _ _ e) (upd_other _ _ e) (fun h=>hW _ (I.own id h).2.1 (hH id h)) (I.slot id)
 ·intro id h
  by_cases e:id=d
  ·subst e
   show (∀e,¬E.S e (upd E.η id b id))∧upd E.η id b id<_∧(_≤upd E.η id b id∨B.M0 (upd E.η id b id))
   rw [upd_same]
   exact ⟨hS,hHd h,hb⟩
  ·show (∀e,¬E.S e (upd E.η d b id))∧upd E.η d b id<_∧(_≤upd E.η d b id∨B.M0 (upd E.η d b id))
   rw [upd_other _ _ e]
   have:=I.own id (hHas id e h)
   exact ⟨this.1,Nat.lt_of_lt_of_le this.2.1 hsz,this.2.2⟩
 ·intro i j hi hj he
  have he':upd E.η d b i=upd E.η d b j:=he
  by_cases ei:i=d
  ·by_cases ej:j=d
   ·rw [ei,ej]
   ·rw [ei,upd_same,upd_other _ _ ej] at he'
    exact absurd he'.symm (hH j (hHas j ej hj))
  ·by_cases ej:j=d
   ·rw [ej,upd_same,upd_other _ _ ei] at he'
    exact absurd he' (hH i (hHas i ei hi))
   ·rw [upd_other _ _ ei,upd_other _ _ ej] at he'
    exact I.inj i j (hHas i ei hi) (hHas j ej hj) he'
 ·intro id e1 x1 h1 h2
  by_cases e:id=d
  ·subst e
   show _≤upd E.η id b id∨B.M0 (upd E.η id b id)
   rw [upd_same];exact hb
  ·show _≤upd E.η d b id∨B.M0 (upd E.η d b id)
   rw [upd_other _ _ e]
   have h1':(upd E.H d (⟨(E.H d).g,c⟩:Slot T) id).c=.row e1 x1:=h1
   have h2':upd E.κ d κd id≠0:=h2
   rw [upd_other _ _ e] at h1' h2'
   exact I.rowl id e1 x1 h1' h2'
 ·intro e k hk
  exact Nat.lt_of_lt_of_le (I.slt e k hk) hsz
 ·intro k hk hm
  refine (hW k (Nat.lt_of_lt_of_le hk I.size) ?_).trans (I.blk k hk hm)
  rintro rfl
  rcases hb with hb | hb
  ·omega
  ·exact hm hb
 ·intro id cs hid hcs
  by_cases e:id=d
  ·subst e
   have hcs':(upd E.H id (⟨(E.H id).g,c⟩:Slot T) id).c=.box cs:=hcs
   rw [upd_same] at hcs'
   exact absurd hcs' (hcb cs)
  ·have hcs':(upd E.H d (⟨(E.H d).g,c⟩:Slot T) id).c=.box cs:=hcs
   rw [upd_other _ _ e] at hcs'
   show upd E.η d b id=_
   rw [upd_other _ _ e]
   exact I.fxd id cs hid hcs'
 ·intro id e1 x1 h1
  by_cases e:id=d
  ·subst e
   refine ⟨?_,fun h=>absurd h (Nat.not_le.2 hcp.2)⟩
   show upd E.κ id κd id≤_
   rw [upd_same];exact hcp.1
  ·have h1':(upd E.H d (⟨(E.H d).g,c⟩:Slot T) id).c=.row e1 x1:=h1
   rw [upd_other _ _ e] at h1'
   show upd E.κ d κd id≤_∧(HR≤id→upd E.η d b id=_∧upd E.κ d κd id=_∧_)
   rw [upd_other _ _ e,upd_other _ _ e]
   exact I.cap id e1 x1 h1'
theorem view_ok {B:Base} {E:Env T} (I:InvE B E) {v:FV T} {cv:Value} {e:Ty} {ys:List (Den T.ST e)} (hv:RepF E v cv) (h:lstF E.H v=some (.lst e ys)):
  ∃A c,cv=.slice A ys.length c∧(ys≠[]→∃b o,A=some ⟨b,o,none⟩∧Elems T E.w E.S e ys (fun k=>E.w.cell? ⟨b,o+k,none⟩)):=by
 unfold lstF at h
 split at h
 ·rename_i e' xs
  have h:=Option.some.inj h
  rw [RepF,h] at hv
  obtain ⟨A,c,h1,_,_,h3⟩:=rep_lst hv
  refine ⟨A,c,h1,fun hn=>?_⟩
  obtain ⟨b,o,h4,_,h5,_⟩:=h3 hn
  exact ⟨b,o,h4,h5⟩
 ·rename_i id g
  obtain ⟨e2,xs2,h1,h2⟩:=dyn1_own h
  injection h2 with q1 q2
  subst q1
  obtain rfl:=eq_of_heq q2
  rcases h1 with h1 | h1
  ·obtain ⟨A,hA⟩:=own_hdr hv (by rw [h1]) (.inl (by rw [h1]))
   refine ⟨A,_,hA.1,fun hn=>?_⟩
   have hsl:=I.slot id
   unfold SlotOk at hsl
   rw [h1] at hsl
   have hκ:E.κ id≠0:=by
    intro h0
    have:=hsl.1
    rw [h0] at this
    exact hn (List.length_eq_zero_iff.1 (by omega))
   obtain ⟨arr,t,s1,s2,_,s3⟩:=hsl.2 hκ
   refine ⟨E.η id,0,hA.2 hκ,fun i x hi j y hj=>?_⟩
   obtain ⟨u,h4,h5⟩:=s3 i x hi j y hj
   refine ⟨u,?_,h5⟩
   show E.w.cell? ⟨E.η id,0+(i*szE T e+j),none⟩=some u
   rw [Nat.zero_add]
   simp only [World.cell?,s1]
   exact h4
  ·obtain ⟨A,hA⟩:=own_hdr hv (by rw [h1]) (.inr (by rw [h1]))
   have hsl:=I.slot id
   unfold SlotOk at hsl
   rw [h1] at hsl
   obtain ⟨A',c',h3,h4,_,h5⟩:=rep_lst (hsl A hA.2)
   injection h3 with q1 q2 q3
   subst q1
   refine ⟨A,_,hA.1,fun hn=>?_⟩
   obtain ⟨b,o,h6,_,h7,_⟩:=h5 hn
   exact ⟨b,o,h6,h7⟩
 ·cases h
theorem cells_list {P:Program} (hT:TblOk P T) {w:World} {S:E→Nat→Prop} {e:Ty} {ys:List (Den T.ST e)} {f:Nat→Option Value} (hpos:0<szE T e) (h:Elems T w S e ys f):
  ∃news:List Value,news.length=ys.length*szE T e∧(∀(j:Nat) u,news[j]?=some u→f j=some u)∧(∀u∈news,oneC u=true)∧Elems T w S e ys (fun k=>news[k]?):=by
 have key:∀k,k<ys.length*szE T e→∃u,f k=some u∧oneC u=true∧∀i x j y,ys[i]?=some x→(cellsE T e x)[j]?=some y→i*szE T e+j=k→Rep T w S y u:=by
  intro k hk
  have hi:k / szE T e<ys.length:=(Nat.div_lt_iff_lt_mul hpos).2 hk
  have hj:k % szE T e<(cellsE T e ys[k / szE T e]).length:=by rw [cells_len hT];exact Nat.mod_lt _ hpos
  obtain ⟨u,h1,h2⟩:=h _ _ (List.getElem?_eq_getElem hi) _ _ (List.getElem?_eq_getElem hj)
  have hkk:k / szE T e*szE T e+k % szE T e=k:=by rw [Nat.mul_comm];exact Nat.div_add_mod k (szE T e)
  rw [hkk] at h1
  refine ⟨u,h1,h2.one,fun i x j y hx hy hij=>?_⟩
  have hjs:j<szE T e:=by
   rcases Nat.lt_or_ge j (cellsE T e x).length with h | h
   ·rw [cells_len hT] at h;exact h
   ·rw [List.getElem?_eq_none h] at hy;cases hy
  have e1:i=k / szE T e:=by
   rw [←hij,Nat.mul_comm,Nat.mul_add_div hpos,Nat.div_eq_of_lt hjs,Nat.add_zero]
  have e2:j=k % szE T e:=by
   rw [←hij,Nat.mul_comm,Nat.mul_add_mod,Nat.mod_eq_of_lt hjs]
  subst e1
  rw [List.getElem?_eq_getElem hi] at hx
  obtain rfl:=Option.some.inj hx
  subst e2
  rw [List.getElem?_eq_getElem hj] at hy
  rw [←Option.some.inj hy]
  exact h2
 obtain ⟨news,hl,hq⟩:=choose_vals (Q:=fun k u=>f k=some u∧oneC u=true∧∀i x j y,ys[i]?=some x→(cellsE T e x)[j]?=some y→i*szE T e+j=k→Rep T w S y u) _ key
 refine ⟨news,hl,fun j u hj=>(hq j u hj).1,fun u hu=>?_,fun i x hi j y hj=>?_⟩
 ·obtain ⟨j,hj⟩:=List.mem_iff_getElem?.1 hu
  exact (hq j u hj).2.1
 ·have hi':i<ys.length:=by
   rcases Nat.lt_or_ge i ys.length with h | h
   ·exact h
   ·rw [List.getElem?_eq_none h] at hi;cases hi
  have hj':j<szE T e:=by
   rcases Nat.lt_or_ge j (cellsE T e x).length with h | h
   ·rw [cells_len hT] at h;exact h
   ·rw [List.getElem?_eq_none h] at hj;cases hj
  have hlt:i*szE T e+j<news.length:=by
   rw [hl]
   have:(i+1)*szE T e≤ys.length*szE T e:=Nat.mul_le_mul_right _ (by omega)
   rw [Nat.succ_mul] at this
   omega
  have hg:=List.getElem?_eq_getElem hlt
  exact ⟨_,hg,(hq _ _ hg).2.2 i x j y hi hj rfl⟩
theorem elems_append {P:Program} (hT:TblOk P T) {w:World} {S:E→Nat→Prop} {e:Ty} {xs ys:List (Den T.ST e)} {a b:List Value} {f:Nat→Option Value} (ha:a.length=xs.length*szE T e) (hx:Elems T w S e xs (fun k=>a[k]?)) (hy:Elems T w S e ys (fun k=>b[k]?))
  (hb:b.length=ys.length*szE T e) (hf:∀k,k<a.length+b.length→f k=(a++b)[k]?):Elems T w S e (xs++ys) f:=by
 intro i x hi j y hj
 have hj':j<szE T e:=by
  rcases Nat.lt_or_ge j (cellsE T e x).length with h | h
  ·rw [cells_len hT] at h;exact h
  ·rw [List.getElem?_eq_none h] at hj;cases hj
 by_cases hlt:i<xs.length
 ·rw [List.getElem?_append_left hlt] at hi
  obtain ⟨u,h1,h2⟩:=hx i x hi j y hj
  have h1:a[i*szE T e+j]?=some u:=h1
  have hk:i*szE T e+j<a.length:=by
   rcases Nat.lt_or_ge (i*szE T e+j) a.length with h | h
   ·exact h
   ·rw [List.getElem?_eq_none h] at h1;cases h1
  refine ⟨u,?_,h2⟩
  rw [hf _ (by omega),List.getElem?_append_left hk]
  exact h1
 ·rw [List.getElem?_append_right (by omega)] at hi
  obtain ⟨u,h1,h2⟩:=hy _ x hi j y hj
  have h1:b[(i - xs.length)*szE T e+j]?=some u:=h1
  have hk:(i - xs.length)*szE T e+j<b.length:=by
   rcases Nat.lt_or_ge ((i - xs.length)*szE T e+j) b.length with h | h
   ·exact h
   ·rw [List.getElem?_eq_none h] at h1;cases h1
  have e1:i*szE T e+j=a.length+((i - xs.length)*szE T e+j):=by
   rw [ha,Nat.sub_mul]
   have:xs.length*szE T e≤i*szE T e:=Nat.mul_le_mul_right _ (by omega)
   omega
  refine ⟨u,?_,h2⟩
  rw [e1,hf _ (by omega),List.getElem?_append_right (by omega),Nat.add_sub_cancel_left]
  exact h1
theorem run_append_zero {P:Program} (w:World) (t ty e:TypeId) (i:TypeInfo) (ht:P.underlying t=some (.slice e)) (hi:P.info? e=some i) (A A2:Option Addr) (n c c2:Nat) (hc:n≤c):
  (Builtin.append_ #[t,t] ty #[.slice A n c,.slice A2 0 c2]).run P w=.ok (.slice A n c) w:=by
 cases A2 with
 | none=>cases A <;> simp [Builtin.append_,run_underlying ht,sizeOf,typeInfo,hi,Builtin.lenOf,hc,Builtin.firstCells,storeCells]
 | some b=>cases A <;> simp [Builtin.append_,run_underlying ht,sizeOf,typeInfo,hi,Builtin.lenOf,hc,Builtin.firstCells,storeCells,loadCells,loadCellsFrom]
end
end Go.Proofs.YtggmgmkhohmfiaaGreat.PE
namespace Go.Proofs.YtggmgmkhohmfiaaGreat.PE
noncomputable section
set_option linter.unusedVariables false
open Go Go.RowKit
variable {T:Tbl} {R:Type}
theorem run_append_room' {P:Program} (w:World) (t ty e tt:TypeId) (i:TypeInfo) (ht:P.underlying t=some (.slice e)) (hi:P.info? e=some i)
  (g sLen sCap:Nat) (cur:Array Value) (hg:w.heap[g]?=some (.cells cur tt (0,0)))
  (a:Addr) (m c:Nat) (news:List Value) (hl:news.length=m*i.size) (hnews:∀(j:Nat) u,news[j]?=some u→w.cell? (a.add j)=some u) (h1:∀u∈news,u.oneCell'=true)
  (hroom:sLen+m≤sCap) (hfit:sLen*i.size+news.length≤cur.size):
  (Builtin.append_ #[t,t] ty #[.slice (some ⟨g,0,none⟩) sLen sCap,.slice (some a) m c]).run P w=
   .ok (.slice (some ⟨g,0,none⟩) (sLen+m) sCap) (w.setRow g (cur.toList.take (sLen*i.size)++news++cur.toList.drop (sLen*i.size+news.length)).toArray):=by
 have hf:=run_firstCells_some (P:=P) w i.size m a m c news hl hnews
 have hst:=run_storeCells_at P g (sLen*i.size) tt news 0 cur w hg (by simpa using hfit) h1
 simp only [Nat.add_zero] at hst
 simp [Builtin.append_,run_underlying ht,sizeOf,typeInfo,hi,Builtin.lenOf,hroom,hf,add0,hst]
theorem zero_get (z:Array Value) (n k:Nat) (hk:k<n*z.size):(Builtin.zeroCells z n)[k]?=some z[k % z.size]! :=by
 unfold Builtin.zeroCells
 rw [Array.getElem?_map,Array.getElem?_range,if_pos hk]
 rfl
theorem rest_zero {P:Program} (hT:TblOk P T) {e:E} {z:Array Value} {a n m:Nat} {f:Nat→Option Value} (hz:z.size=szE T e) (i5:∀(j:Nat) y,(cellsE T e (dft T e))[j]?=some y→∃cv,z[j]?=some cv∧kd y cv) (hn:n=a+m)
  (hf:∀k,k<m*szE T e→f (a*szE T e+k)=(Builtin.zeroCells z m)[k]?):Rest T e a n f:=by
 intro i h1 h2 j y hj
 obtain ⟨cv,h6,h7⟩:=i5 j y hj
 have hp':j<szE T e:=by
  rcases Nat.lt_or_ge j (cellsE T e (dft T e)).length with h | h
  ·rw [cells_len hT] at h;exact h
  ·rw [List.getElem?_eq_none h] at hj;cases hj
 obtain ⟨k,rfl⟩:∃k,i=a+k:=⟨i - a,by omega⟩
 have hlt:k*szE T e+j<m*szE T e:=by
  have:(k+1)*szE T e≤m*szE T e:=Nat.mul_le_mul_right _ (by omega)
  rw [Nat.succ_mul] at this
  omega
 refine ⟨cv,?_,h7⟩
 rw [Nat.add_mul,Nat.add_assoc,hf _ hlt,zero_get _ _ _ (by rw [hz];exact hlt),hz,Nat.mul_comm,Nat.mul_add_mod,Nat.mod_eq_of_lt hp',←h6]
 simp [getElem!_def,h6]
def Front (B:Base) (E E0:Env T) (e:Ty) (xs:List (Den T.ST e)) (A:Option Addr) (c:Nat):Prop:=
 (xs.length≤c∧c≤maxLen)∧(c≠0→∃b arr tt,A=some ⟨b,0,none⟩∧E.w.heap[b]?=some (.cells arr tt (0,0))∧arr.size=c*szE T e∧((T.str e=true→Kinds T e c (fun k=>arr[k]?))∧Elems T E.w E.S e xs (fun k=>arr[k]?))∧(∀e',¬E.S e' b)∧(∀id,Has E0 id→E0.η id≠b)∧(B.w0.heap.size≤b∨B.M0 b))
theorem append_core {P:Program} (hT:TblOk P T) {d:Nat} (hdr:d<HR) {B:Base} {E E0:Env T} (I0:InvE B E0) (hw0:E0.w=E.w) (hS0:E0.S=E.S) {t t' ty:TypeId} {e:Ty} (hu:P.underlying t=some (.slice t')) (ht':T.ety t'=some e)
  (hd:(E0.H d).c=.none) {xs ys:List (Den T.ST e)} {A:Option Addr} {c:Nat} (hF:Front B E E0 e xs A c) {A2:Option Addr} {c2:Nat}
  (hy:ys≠[]→∃b o,A2=some ⟨b,o,none⟩∧Elems T E.w E.S e ys (fun k=>E.w.cell? ⟨b,o+k,none⟩)) (hb:xs.length+ys.length≤T.bnd e):
  ∃E' cv,EnvLe E0 E'∧InvE B E'∧RepF E' (.own d (E0.H d).g) cv∧E'.H=upd E0.H d ⟨(E0.H d).g,.row e (xs++ys)⟩∧
   (Builtin.append_ #[t,t] ty #[.slice A xs.length c,.slice A2 ys.length c2]).run P E.w=.ok cv E'.w:=by
 obtain ⟨i,z,i1,i2,i3,i4,i5,i6,i7⟩:=(hT.ty _ _ ht').info
 have hpos:=(hT.ty _ _ ht').pos
 have hown:∀(W:World) (b κd:Nat) (A':Option Addr),(κd≠0→A'=some ⟨b,0,none⟩)→RepF (⟨W,E0.S,upd E0.η d b,upd E0.κ d κd,upd E0.H d ⟨(E0.H d).g,.row e (xs++ys)⟩⟩:Env T) (.own d (E0.H d).g) (.slice A' (xs++ys).length κd):=by
  intro W b κd A' hA
  rw [RepF]
  refine ⟨⟨?_,rfl⟩,fun _=>⟨e,xs++ys,.inl ?_,A',?_,?_⟩⟩
  ·show (E0.H d).g≤(upd E0.H d (⟨(E0.H d).g,.row e (xs++ys)⟩:Slot T) d).g
   rw [upd_same];exact Nat.le_refl _
  ·show (upd E0.H d (⟨(E0.H d).g,.row e (xs++ys)⟩:Slot T) d).c=_
   rw [upd_same]
  ·show _=Value.slice _ _ (upd E0.κ d κd d)
   rw [upd_same]
  ·show upd E0.κ d κd d≠0→A'=some ⟨upd E0.η d b d,0,none⟩
   rw [upd_same,upd_same];exact hA
 have hslot:∀(W:World) (b κd:Nat) (arr':Array Value) (tt:TypeId),(xs++ys).length≤κd→(κd≠0→W.heap[b]?=some (.cells arr' tt (0,0))∧arr'.size=κd*szE T e∧((T.str e=true→Kinds T e κd (fun k=>arr'[k]?))∧Elems T W E0.S e (xs++ys) (fun k=>arr'[k]?)))→
   SlotOk (⟨W,E0.S,upd E0.η d b,upd E0.κ d κd,upd E0.H d ⟨(E0.H d).g,.row e (xs++ys)⟩⟩:Env T) d:=by
  intro W b κd arr' tt hl h
  unfold SlotOk
  show match (upd E0.H d (⟨(E0.H d).g,.row e (xs++ys)⟩:Slot T) d).c with | .none=>_ | .box cs=>_ | .row e xs=>_ | .frz e xs=>_
  rw [upd_same]
  show (xs++ys).length≤upd E0.κ d κd d∧(upd E0.κ d κd d≠0→∃arr t,W.heap[upd E0.η d b d]?=some (.cells arr t (0,0))∧arr.size=upd E0.κ d κd d*szE T e∧(T.str e=true→Kinds T e (upd E0.κ d κd d) (fun k=>arr[k]?))∧Elems T W E0.S e (xs++ys) (fun k=>arr[k]?))
  rw [upd_same,upd_same]
  exact ⟨hl,fun hk=>⟨arr',tt,h hk⟩⟩
 obtain ⟨⟨hxl,hcm⟩,hfr⟩:=hF
 by_cases hye:ys=[]
 ·
  subst hye
  rw [List.append_nil] at*
  by_cases hc:c=0
  ·subst hc
   obtain ⟨h1,h2⟩:=inv_fill (c:=.row e xs) I0 E0.w.heap.size 0 hd E0.w (Nat.le_refl _) (fun _ _ _=>rfl) (fun _ h=>absurd (I0.slt _ _ h) (Nat.lt_irrefl _)) (fun id h e=>absurd (I0.own id h).2.1 (by rw [e];exact Nat.lt_irrefl _)) (.inl I0.size) (fun _ h=>by cases h) ⟨Nat.zero_le _,hdr⟩ rfl rfl rfl
    (by rintro (⟨cs,h⟩ | ⟨_,_,_,h⟩);exact absurd h nofun;exact absurd rfl h) (fun _=>hslot _ _ _ #[] 0 hxl (fun h=>absurd rfl h))
   exact ⟨_,_,h1,h2,hown _ _ _ A (fun h=>absurd rfl h),rfl,by rw [←hw0];exact run_append_zero _ _ _ _ i hu i1 _ _ _ _ _ hxl⟩
  ·obtain ⟨b,arr,tt,f1,f2,f3,⟨fk,f4⟩,f5,f6,f7⟩:=hfr hc
   have hlt:b<E0.w.heap.size:=by rw [hw0];exact (Array.getElem?_eq_some_iff.1 f2).1
   obtain ⟨h1,h2⟩:=inv_fill (c:=.row e xs) I0 b c hd E0.w (Nat.le_refl _) (fun _ _ _=>rfl) (by rw [hS0];exact f5) f6 f7 (fun _ h=>by cases h) ⟨hcm,hdr⟩ rfl rfl rfl (fun _=>hlt)
    (fun hle=>hslot _ _ _ arr tt hxl (fun _=>⟨by rw [hw0];exact f2,f3,fk,f4.mono (fun _ b' hb'=>⟨by rw [hS0];exact hb',by rw [hw0]⟩)⟩))
   exact ⟨_,_,h1,h2,hown _ _ _ A (fun _=>f1),rfl,by rw [←hw0];exact run_append_zero _ _ _ _ i hu i1 _ _ _ _ _ hxl⟩
 ·obtain ⟨b2,o2,rfl,hye2⟩:=hy hye
  have hyl:0<ys.length:=List.length_pos_iff.2 hye
  obtain ⟨news,n1,n2,n3,n4⟩:=cells_list hT hpos hye2
  have hnews:∀(j:Nat) u,news[j]?=some u→E.w.cell? ((⟨b2,o2,none⟩:Addr).add j)=some u:=fun j u hj=>by rw [add0];exact n2 j u hj
  have hnl:news.length=ys.length*i.size:=by rw [n1,i2]
  have hbytes:(xs.length+ys.length)*i.bytes≤140737488355328:=Nat.le_trans (Nat.mul_le_mul_right _ hb) i6
  have hlen63:xs.length+ys.length≤140737488355328:=Nat.le_trans (Nat.le_mul_of_pos_right _ i7) hbytes
  have grow:∀(olds:List Value) (cap:Nat),olds.length=xs.length*szE T e→Elems T E.w E.S e xs (fun k=>olds[k]?)→xs.length+ys.length≤cap→cap≤maxLen→cap≠0→∀cv:Value,cv=.slice (some ⟨E.w.heap.size,0,none⟩) (xs.length+ys.length) cap→
    ∀res,res=(.ok cv (E.w.drew.alloc (.cells (olds.toArray++news.toArray++Builtin.zeroCells z.cells (cap - (xs.length+ys.length))) t')):Result Value)→
    ∃E' cv,EnvLe E0 E'∧InvE B E'∧RepF E' (.own d (E0.H d).g) cv∧E'.H=upd E0.H d ⟨(E0.H d).g,.row e (xs++ys)⟩∧res=.ok cv E'.w:=by
   intro olds cap ho hoe hcap hcpm hc0 cv hcv res hres
   have hasz:(olds.toArray++news.toArray++Builtin.zeroCells z.cells (cap - (xs.length+ys.length))).size=cap*szE T e:=by
    simp only [Array.size_append,List.size_toArray,ho,n1,Builtin.zeroCells,Array.size_map,Array.size_range,i4]
    rw [←Nat.add_mul,←Nat.add_mul]
    congr 1
    omega
   obtain ⟨E',g1,g2,g3,g4,g5⟩:=row_env (xs:=xs++ys) (arr:=olds.toArray++news.toArray++Builtin.zeroCells z.cells (cap - (xs.length+ys.length))) hT I0 t' cap (.inl ⟨rfl,hd⟩) ⟨hcpm,hdr⟩ (by rw [List.length_append];exact hcap) hasz
    (by
     rw [hw0,hS0]
     refine elems_append hT ho hoe n4 n1 fun k hk=>?_
     rw [Array.getElem?_append_left (by simp;omega),List.append_toArray,List.getElem?_toArray])
    (fun _=>by
     rw [List.length_append]
     refine rest_zero hT (m:=cap - (xs.length+ys.length)) i4 (fun j y hj=>let ⟨cv,h1,h2⟩:=i5 j y hj;⟨cv,h1,rep_kd (h2.1 E.w E.S)⟩) (by omega) fun k hk=>?_
     have hsz0:(olds.toArray++news.toArray).size=(xs.length+ys.length)*szE T e:=by rw [Array.size_append,List.size_toArray,List.size_toArray,ho,n1,Nat.add_mul]
     show (olds.toArray++news.toArray++Builtin.zeroCells z.cells (cap - (xs.length+ys.length)))[(xs.length+ys.length)*szE T e+k]?=_
     rw [Array.getElem?_append_right (by omega),hsz0]
     congr 1
     omega) E0.w.drew rfl rfl rfl rfl
   refine ⟨E',_,g3,g4,g5,g2,?_⟩
   rw [hres,hcv,g1,hw0,List.length_append]
  by_cases hc:c=0
  ·subst hc
   have hxe:xs=[]:=List.length_eq_zero_iff.1 (by omega)
   subst hxe
   simp only [List.length_nil,Nat.zero_add] at*
   cases A with
   | none=>
    refine grow [] (grownCap E.w ys.length 0 t') (by simp) (fun i x hi=>absurd hi (by simp)) (grownCap_ge _ _ _ _) (grownCap_le_maxLen _ _ _ _ (by show ys.length≤2 ^ 63 - 1;omega)) (by have:=grownCap_ge E.w ys.length 0 t';omega) _ rfl _ ?_
    rw [run_append_nil E.w t ty t' i z hu i1 i3 _ _ _ news hnl hnews hyl (by omega) (by omega)]
    simp
   | some a=>
    have hr:=run_append_grow E.w t ty t' i z hu i1 i3 a 0 0 [] (by simp) (fun j v h=>absurd h (by simp)) ⟨b2,o2,none⟩ ys.length c2 news hnl hnews (by omega) (by omega) (growslice_fits (by omega) (by rw [Nat.zero_add];exact hbytes))
    simp only [Nat.zero_add] at hr
    refine grow [] (grownCap E.w ys.length 0 t') (by simp) (fun i x hi=>absurd hi (by simp)) (grownCap_ge _ _ _ _) (grownCap_le_maxLen _ _ _ _ (by show ys.length≤2 ^ 63 - 1;omega)) (by have:=grownCap_ge E.w ys.length 0 t';omega) _ rfl _ ?_
    exact hr
  ·obtain ⟨b,arr,tt,rfl,f2,f3,⟨fk,f4⟩,f5,f6,f7⟩:=hfr hc
   by_cases hroom:xs.length+ys.length≤c
   ·have hfit:xs.length*i.size+news.length≤arr.size:=by
     rw [f3,hnl,i2,←Nat.add_mul]
     exact Nat.mul_le_mul_right _ hroom
    have hr:=run_append_room' E.w t ty t' tt i hu i1 b xs.length c arr f2 ⟨b2,o2,none⟩ ys.length c2 news hnl hnews (fun u hu=>oneC' (n3 u hu)) hroom hfit
    have hlt:b<E0.w.heap.size:=by rw [hw0];exact (Array.getElem?_eq_some_iff.1 f2).1
    have hsz:(E.w.setRow b (arr.toList.take (xs.length*i.size)++news++arr.toList.drop (xs.length*i.size+news.length)).toArray).heap.size=E0.w.heap.size:=by rw [hw0];simp [World.setRow]
    obtain ⟨h1,h2⟩:=inv_fill (c:=.row e (xs++ys)) I0 b c hd (E.w.setRow b (arr.toList.take (xs.length*i.size)++news++arr.toList.drop (xs.length*i.size+news.length)).toArray) (Nat.le_of_eq hsz.symm) (fun k _ hk=>by rw [setRow_other _ _ _ _ hk,hw0]) (by rw [hS0];exact f5) f6 f7 (fun _ h=>by cases h) ⟨hcm,hdr⟩ (by rw [hw0];rfl) (by rw [hw0];rfl) (by rw [hw0];rfl) (fun _=>by rw [hsz];exact hlt)
     (fun hle=>hslot _ _ _ _ tt (by rw [List.length_append];exact hroom) (fun _=>⟨setRow_heap _ _ _ _ _ _ f2,by
      rw [←f3,List.size_toArray,List.length_append,List.length_append,List.length_take,List.length_drop]
      simp
      omega,by
      have hmono:∀e' q,E.S e' q→E0.S e' q∧(E.w.setRow b (arr.toList.take (xs.length*i.size)++news++arr.toList.drop (xs.length*i.size+news.length)).toArray).heap[q]?=E.w.heap[q]?:=fun e' q hq=>⟨by rw [hS0];exact hq,setRow_other _ _ _ _ (fun e=>f5 e' (e▸hq))⟩
      obtain ⟨olds,o1,o3,o4,o5⟩:=cells_list hT hpos f4
      have hol:arr.toList.take (xs.length*i.size)=olds:=by
       apply List.ext_getElem?
       intro k
       by_cases hk:k<xs.length*i.size
       ·rw [List.getElem?_take_of_lt hk,Array.getElem?_toList]
        have hk':k<olds.length:=by rw [o1,←i2];exact hk
        have:=o3 k _ (List.getElem?_eq_getElem hk')
        rw [List.getElem?_eq_getElem hk',←this]
       ·rw [List.getElem?_take_eq_none (by omega),List.getElem?_eq_none (by rw [o1,←i2];omega)]
      refine kinds_and hT (elems_append hT o1 (o5.mono hmono) (n4.mono hmono) n1 fun k hk=>?_) fun hst i' hi1 hi2 j y hj=>?_
      ·rw [List.getElem?_toArray,hol,List.getElem?_append_left (by rw [List.length_append];exact hk)]
      ·rw [List.length_append] at hi1
       obtain ⟨cv,h6,h7⟩:=fk hst i' hi2 j y hj
       refine ⟨cv,?_,h7⟩
       show ((arr.toList.take (xs.length*i.size)++news++arr.toList.drop (xs.length*i.size+news.length)).toArray)[i'*szE T e+j]?=some cv
       have hm:(xs.length+ys.length)*szE T e≤i'*szE T e:=Nat.mul_le_mul_right _ hi1
       rw [Nat.add_mul] at hm
       rw [List.getElem?_toArray,splice_get _ _ _ _ (by simpa using hfit),if_neg (by rw [i2];omega),if_neg (by rw [n1,i2];omega),Array.getElem?_toList]
       exact h6⟩))
    refine ⟨_,_,h1,h2,hown _ _ _ (some ⟨b,0,none⟩) (fun _=>rfl),rfl,?_⟩
    rw [List.length_append]
    exact hr
   ·obtain ⟨olds,o1,o3,o4,o5⟩:=cells_list hT hpos f4
    have holds:∀(j:Nat) v,olds[j]?=some v→E.w.cell? ((⟨b,0,none⟩:Addr).add j)=some v:=fun j v hj=>by
     rw [add0,Nat.zero_add]
     simp only [World.cell?,f2]
     exact o3 j v hj
    refine grow olds (grownCap E.w (xs.length+ys.length) c t') o1 o5 (grownCap_ge _ _ _ _) (grownCap_le_maxLen _ _ _ _ (by show xs.length+ys.length≤2 ^ 63 - 1;omega)) (by have:=grownCap_ge E.w (xs.length+ys.length) c t';omega) _ rfl _ ?_
    exact run_append_grow E.w t ty t' i z hu i1 i3 ⟨b,0,none⟩ xs.length c olds (by rw [o1,i2]) holds ⟨b2,o2,none⟩ ys.length c2 news hnl hnews (by omega) (by omega) (growslice_fits (by omega) hbytes)
end
end Go.Proofs.YtggmgmkhohmfiaaGreat.PE
namespace Go.Proofs.YtggmgmkhohmfiaaGreat.PE
noncomputable section
set_option linter.unusedVariables false
open Go Go.RowKit
variable {T:Tbl} {R:Type}
theorem upd_upd {α:Type _} (f:Nat→α) (i:Nat) (a b:α):upd (upd f i a) i b=upd f i b:=by
 funext j
 by_cases h:j=i
 ·subst h;rw [upd_same,upd_same]
 ·rw [upd_other _ _ h,upd_other _ _ h,upd_other _ _ h]
theorem view_cast {B:Base} {E:Env T} (I:InvE B E) {v:FV T} {cv:Value} {e' e:Ty} {ys:List (Den T.ST e')} {zs:List (Den T.ST e)} (hv:RepF E v cv) (h:lstF E.H v=some (.lst e' ys)) (hc:toL T.ST e' e ys=some zs):
  ∃A c,cv=.slice A zs.length c∧(zs≠[]→∃b o,A=some ⟨b,o,none⟩∧Elems T E.w E.S e zs (fun k=>E.w.cell? ⟨b,o+k,none⟩)):=by
 obtain ⟨A,c,h1,h2⟩:=view_ok I hv h
 rcases toL_ok hc with heq | ⟨heq,e2,heq2⟩
 ·injection heq with q1 q2
  subst q1
  obtain rfl:=eq_of_heq q2
  exact ⟨A,c,h1,h2⟩
 ·cases heq
theorem run_append_any_zeros {P:Program} (w:World) (t tn ty e:TypeId) (i:TypeInfo) (z:Value) (k kn:IntKind) (ht:P.underlying t=some (.slice e)) (htn:P.underlying tn=some (.int kn)) (hi:P.info? e=some i) (hz:i.zero=some z)
  (n:Nat) (h0:0<n) (hs:0<i.size) (h63:(n:Int)≤9223372036854775807) (h48:n*i.bytes≤281474976710656) (A:Option Addr):
  (Builtin.append_ #[t,tn] ty #[.slice A 0 0,.int k n]).run P w=
   .ok (.slice (some ⟨w.heap.size,0,none⟩) n (grownCap w n 0 e)) (w.drew.alloc (.cells (Builtin.zeroCells z.cells n++Builtin.zeroCells z.cells (grownCap w n 0 e - n)) e)):=by
 cases A with
 | none=>exact Lib.run_append_nil_zeros w t tn ty e i z k kn ht htn hi hz n h0 hs h63 h48
 | some a=>
  have hn:n≠0:=by omega
  have hw:IntKind.i64.wrap (n:Int)=n:=by rw [IntKind.wrap_i64];omega
  have h63':¬(9223372036854775807<(n:Int)):=by omega
  have h48':¬(281474976710656<Builtin.nextslicecap n 0*i.bytes):=by rw [nextslicecap_zero h0];omega
  have h48i:¬(281474976710656<(n:Int)*(i.bytes:Int)):=by
   rw [←Int.natCast_mul]
   omega
  have hneg:¬((n:Int)<0):=by omega
  have hns:¬(n*i.size=0):=Nat.mul_ne_zero hn (by omega)
  have hf:=run_firstCells_some (P:=P) w.drew i.size 0 a 0 0 [] (by simp) (fun j v h=>absurd h (by simp))
  simp [Builtin.append_,run_underlying ht,run_underlying htn,sizeOf,typeInfo,zeroValue,hi,hz,asInt,asIntOf,hw,hn,hneg,hns,h63',h48',h48i,Question.forced,hf,newRow,grownCap]
theorem l_append0 {P:Program} (hT:TblOk P T) {o:Oper} {s:St T} {X Y:Operand} {ts:Array TypeId} {t t2:TypeId} (ho:o.op=.call {callee:=.builtin .append,args:=#[X,Y],argTypes:=ts}) (hts:ts.toList=[t,t2])
  {e:Ty} (ht:T.ety t=some (.lst e)) {K:FV T→(Nat→Slot T)→Option R} {r:R} {q:Bool} (h:app0K T o.dst q s.h e (T.ety t2) (ev s X) (ev s Y) K=some r):q=false∧∃v h',K v h'=some r∧LOk P o s v h':=by
 have hts':ts=#[t,t2]:=by cases ts;simpa using hts
 subst hts'
 obtain ⟨dd,hu,t',rfl,ht'⟩:=(hT.ty _ _ ht).desc
 unfold app0K at h
 split at h
 ·rename_i d k2 k n hd he2 hX hY
  obtain ⟨dd2,hu2,k3,rfl⟩:∃d2,P.underlying t2=some d2∧∃k,d2=.int k:=by
   obtain ⟨d2,h1,h2⟩:=(hT.ty _ _ he2).desc
   exact ⟨d2,h1,_,h2⟩
  refine ⟨rfl,?_⟩
  split at h
  ·rename_i hn
   split at h
   ·rename_i hb
    refine ⟨_,_,h,fun B E a I hE hops next Q kk=>?_⟩
    have ex:=hops X (by simp [Op.operands,Call.operands,ho])
    have ey:=hops Y (by simp [Op.operands,Call.operands,ho])
    rw [hX,RepF] at ex
    rw [hY,RepF] at ey
    obtain ⟨A,hA⟩:=ex
    have hy:=rep_int.1 ey
    obtain ⟨i,z,i1,i2,i3,i4,i5,i6,i7⟩:=(hT.ty _ _ ht').info
    have hpos:=(hT.ty _ _ ht').pos
    obtain ⟨m,rfl⟩:∃m:Nat,n=m:=⟨n.toNat,by omega⟩
    have hbytes:m*i.bytes≤140737488355328:=Nat.le_trans (Nat.mul_le_mul_right _ (by omega)) i6
    have hm:m≤140737488355328:=Nat.le_trans (Nat.le_mul_of_pos_right _ i7) hbytes
    have hrun:=run_append_any_zeros (P:=P) E.w t t2 o.type t' i z k k3 hu hu2 i1 i3 m (by omega) (by omega) (by omega) (by omega) A
    have hcap:=grownCap_ge E.w m 0 t'
    obtain ⟨E',g1,g2,g3,g4,g5⟩:=row_env (xs:=List.replicate m (dft T e)) (arr:=Builtin.zeroCells z.cells m++Builtin.zeroCells z.cells (grownCap E.w m 0 t' - m)) hT I t' (grownCap E.w m 0 t') (.inr (Nat.lt_succ_self (E.H d).g)) ⟨grownCap_le_maxLen _ _ _ _ (by show m≤2 ^ 63 - 1;omega),(guardD_some hd).2⟩ (by rw [List.length_replicate];omega)
     (by
      simp only [Array.size_append,Builtin.zeroCells,Array.size_map,Array.size_range,i4]
      rw [←Nat.add_mul]
      congr 1
      omega)
     (by
      intro j x hj p y hp
      have hj':j<m:=by
       rcases Nat.lt_or_ge j m with h | h
       ·exact h
       ·rw [List.getElem?_eq_none (by simpa using h)] at hj;cases hj
      rw [List.getElem?_replicate,if_pos hj'] at hj
      obtain rfl:=Option.some.inj hj
      obtain ⟨cv,h6,h7⟩:=i5 p y hp
      have hp':p<szE T e:=by
       rcases Nat.lt_or_ge p (cellsE T e (dft T e)).length with h | h
       ·rw [cells_len hT] at h;exact h
       ·rw [List.getElem?_eq_none h] at hp;cases hp
      have hlt:j*szE T e+p<m*z.cells.size:=by
       rw [i4]
       have:(j+1)*szE T e≤m*szE T e:=Nat.mul_le_mul_right _ (by omega)
       rw [Nat.succ_mul] at this
       omega
      refine ⟨cv,?_,h7.1 _ _⟩
      show (Builtin.zeroCells z.cells m++Builtin.zeroCells z.cells (grownCap E.w m 0 t' - m))[j*szE T e+p]?=some cv
      rw [Array.getElem?_append_left (by simpa only [Builtin.zeroCells,Array.size_map,Array.size_range] using hlt),zero_get _ _ _ hlt,i4,Nat.mul_comm,Nat.mul_add_mod,Nat.mod_eq_of_lt hp',←h6]
      simp [getElem!_def,h6])
     (fun _=>by
      rw [List.length_replicate]
      refine rest_zero hT (m:=grownCap E.w m 0 t' - m) i4 (fun j y hj=>let ⟨cv,h1,h2⟩:=i5 j y hj;⟨cv,h1,rep_kd (h2.1 E.w E.S)⟩) (by omega) fun k hk=>?_
      have hsz0:(Builtin.zeroCells z.cells m).size=m*szE T e:=by simp only [Builtin.zeroCells,Array.size_map,Array.size_range,i4]
      show (Builtin.zeroCells z.cells m++Builtin.zeroCells z.cells (grownCap E.w m 0 t' - m))[m*szE T e+k]?=_
      rw [Array.getElem?_append_right (by omega),hsz0]
      congr 1
      omega) E.w.drew rfl rfl rfl rfl
    refine wp_value (cv:=.slice (some ⟨E.w.heap.size,0,none⟩) m (grownCap E.w m 0 t')) (w':=E'.w) ?_ ?_
    ·simp only [execOp,ho,resolve,Go.builtin,invoke]
     simp only [List.map_toArray,List.map_cons,List.map_nil]
     rw [hA,hy,g1]
     simp [hrun]
    ·rw [List.length_replicate] at g5
     refine kk E' _ g3 g4 ?_ ?_
     ·rw [←hE];exact g5
     ·rw [g2,hE];rfl
   ·cases h
  ·cases h
 ·cases h
theorem l_append {P:Program} (hT:TblOk P T) {o:Oper} {s:St T} {X Y:Operand} {ts:Array TypeId} {t t2:TypeId} (ho:o.op=.call {callee:=.builtin .append,args:=#[X,Y],argTypes:=ts}) (hts:ts.toList=[t,t2]) (htt:Nat.beq t t2=true)
  {e:Ty} (ht:T.ety t=some (.lst e)) {K:FV T→(Nat→Slot T)→Option R} {r:R} {q:Bool} (h:appK T o.dst q s.h e (ev s X) (ev s Y) K=some r):q=false∧∃v h',K v h'=some r∧LOk P o s v h':=by
 have htt:=beq_true htt
 subst htt
 have hts':ts=#[t,t]:=by cases ts;simpa using hts
 subst hts'
 obtain ⟨dd,hu,t',rfl,ht'⟩:=(hT.ty _ _ ht).desc
 have fin:∀(E:Env T) (a:Act) (W:World) (cv:Value) (next:Act→World→Prop) (Q:Exit→Act→World→Prop),(Builtin.append_ #[t,t] o.type #[a.eval X,a.eval Y]).run P E.w=.ok cv W→next (a.put o.dst cv) W→Oper.wp P o a E.w next Q:=by
  intro E a W cv next Q hrun hk
  refine wp_value ?_ hk
  simp only [execOp,ho,resolve,Go.builtin,invoke]
  simp only [List.map_toArray,List.map_cons,List.map_nil]
  simp [hrun]
 unfold appK at h
 split at h
 ·rename_i e' ys hy
  refine ⟨rfl,?_⟩
  split at h
  ·rename_i zs hz
   split at h
   ·rename_i hX
    split at h
    ·rename_i d hd
     split at h
     ·rename_i hb
      refine ⟨_,_,h,fun B E a I hE hops next Q k=>?_⟩
      have ex:=hops X (by simp [Op.operands,Call.operands,ho])
      have ey:=hops Y (by simp [Op.operands,Call.operands,ho])
      rw [hX,RepF] at ex
      obtain ⟨A,hA⟩:=ex
      obtain ⟨hle0,I0⟩:=inv_drop I d ((E.H d).g+1) (Nat.lt_succ_self _)
      obtain ⟨A2,c2,hY,hye⟩:=view_cast I ey (by rw [hE];exact hy) hz
      have hd0:(upd E.H d (⟨(E.H d).g+1,.none⟩:Slot T) d).c=.none:=by rw [upd_same]
      have hg0:(upd E.H d (⟨(E.H d).g+1,.none⟩:Slot T) d).g=(E.H d).g+1:=by rw [upd_same]
      obtain ⟨E',cv,h1,h2,h3,h4,h5⟩:=append_core (ty:=o.type) hT (d:=d) (guardD_some hd).2 (E:=E) I0 rfl rfl hu ht' hd0 (xs:=[]) (ys:=zs) (A:=A) (c:=0) ⟨⟨Nat.le_refl _,Nat.zero_le _⟩,fun h=>absurd rfl h⟩ (A2:=A2) (c2:=c2) hye (by simpa using hb)
      refine fin E a _ cv next Q (by rw [hA,hY];exact h5) (k E' cv (hle0.trans h1) h2 ?_ ?_)
      ·have h3':RepF E' (.own d (upd E.H d (⟨(E.H d).g+1,.none⟩:Slot T) d).g) cv:=h3
       rw [hg0] at h3'
       rw [←hE]
       exact h3'
      ·have h4':E'.H=upd (upd E.H d (⟨(E.H d).g+1,.none⟩:Slot T)) d ⟨(upd E.H d (⟨(E.H d).g+1,.none⟩:Slot T) d).g,.row e ([]++zs)⟩:=h4
       rw [h4',hg0,upd_upd,hE]
       rfl
     ·cases h
    ·cases h
   ·rename_i id g hX
    split at h
    ·rename_i g' e'' xs0 hH
     split at h
     ·rename_i xs hb1 hb2
      rw [Bool.and_eq_true] at hb1
      have hdr:id<HR:=Nat.le_of_ble_eq_true hb1.2
      have hg:=beq_true hb1.1
      subst hg
      split at h
      ·rename_i hb
       refine ⟨_,_,h,fun B E a I hE hops next Q k=>?_⟩
       have hee:∃he:e''=e,xs=he▸xs0:=by
        unfold castE at hb2
        split at hb2
        ·rename_i he _
         exact ⟨he,(Option.some.inj hb2).symm⟩
        ·cases hb2
       obtain ⟨rfl,rfl⟩:=hee
       have ex:=hops X (by simp [Op.operands,Call.operands,ho])
       have ey:=hops Y (by simp [Op.operands,Call.operands,ho])
       rw [hX] at ex
       have hH':E.H id=⟨g,.row e'' xs⟩:=by rw [hE,hH]
       obtain ⟨A,hA⟩:=own_hdr ex (by rw [hH']) (.inl (by rw [hH']))
       obtain ⟨A2,c2,hY,hye⟩:=view_cast I ey (by rw [hE];exact hy) hz
       obtain ⟨hle0,I0⟩:=inv_drop I id (g+1) (by rw [hH'];exact Nat.lt_succ_self _)
       have hd0:(upd E.H id (⟨g+1,.none⟩:Slot T) id).c=.none:=by rw [upd_same]
       have hg0:(upd E.H id (⟨g+1,.none⟩:Slot T) id).g=g+1:=by rw [upd_same]
       have hsl:=I.slot id
       unfold SlotOk at hsl
       rw [hH'] at hsl
       have hF:Front B E ⟨E.w,E.S,E.η,E.κ,upd E.H id ⟨g+1,.none⟩⟩ e'' xs A (E.κ id):=by
        refine ⟨⟨hsl.1,(I.cap id e'' xs (by rw [hH'])).1⟩,fun hκ=>?_⟩
        obtain ⟨arr,tt,s1,s2,s3⟩:=hsl.2 hκ
        have hHas:Has E id:=.inr ⟨e'',xs,by rw [hH'],hκ⟩
        refine ⟨E.η id,arr,tt,hA.2 hκ,s1,s2,s3,(I.own id hHas).1,fun id' h'=>?_,I.rowl id e'' xs (by rw [hH']) hκ⟩
        have hne:id'≠id:=by
         rintro rfl
         unfold Has at h'
         rcases h' with ⟨cs,h'⟩ | ⟨_,_,h',_⟩
         ·have h2:(upd E.H id' (⟨g+1,.none⟩:Slot T) id').c=.box cs:=h'
          rw [upd_same] at h2;cases h2
         ·have h2:(upd E.H id' (⟨g+1,.none⟩:Slot T) id').c=_:=h'
          rw [upd_same] at h2;cases h2
        intro he
        exact hne (I.inj id' id (has_same (E:=E) h' (upd_other _ _ hne) rfl) hHas he)
       obtain ⟨E',cv,h1,h2,h3,h4,h5⟩:=append_core (ty:=o.type) hT (d:=id) hdr (E:=E) I0 rfl rfl hu ht' hd0 hF (A2:=A2) (c2:=c2) hye hb
       refine fin E a _ cv next Q (by rw [hA.1,hY];exact h5) (k E' cv (hle0.trans h1) h2 ?_ ?_)
       ·have h3':RepF E' (.own id (upd E.H id (⟨g+1,.none⟩:Slot T) id).g) cv:=h3
        rw [hg0] at h3'
        exact h3'
       ·have h4':E'.H=upd (upd E.H id (⟨g+1,.none⟩:Slot T)) id ⟨(upd E.H id (⟨g+1,.none⟩:Slot T) id).g,.row e'' (xs++zs)⟩:=h4
        rw [h4',hg0,upd_upd,hE]
      ·cases h
     ·cases h
    ·cases h
   ·cases h
  ·cases h
 ·cases h
theorem q_run {P:Program} {o:Oper} {s:St T} {v:FV T} (h:∀(B:Base) (E:Env T) (a:Act),InvE B E→Sub E.H s.h→OpsOk E o s a→∃cv,(execOp a.eval o).run P E.w=.ok (.value cv) E.w∧RepF E v cv):QOk P o s v none:=QOk.val h
theorem lst_len {B:Base} {E:Env T} {H:Nat→Slot T} (hs:Sub E.H H) (I:InvE B E) {v:FV T} {cv:Value} {e:Ty} {xs:List (Den T.ST e)} (hv:RepF E v cv) (h:lstF H v=some (.lst e xs)):∃A c,cv=.slice A xs.length c:=by
 have h2:lstF E.H v=some (.lst e xs)∨∃id g,v=.own id g:=by
  unfold lstF at h⊢
  split at h
  ·exact .inl h
  ·exact .inr ⟨_,_,rfl⟩
  ·cases h
 rcases h2 with h2 | ⟨id,g,rfl⟩
 ·obtain ⟨A,c,h3,_⟩:=view_ok I hv h2;exact ⟨A,c,h3⟩
 ·obtain ⟨e2,xs2,h1,h2⟩:=dyn1_own h
  injection h2 with q1 q2
  subst q1
  obtain rfl:=eq_of_heq q2
  have hgen:(E.H id).g=g:=by rw [(hs id).1];rcases h1 with h1 | h1 <;> rw [h1]
  have hv':=hv
  rw [RepF] at hv'
  obtain ⟨e3,xs3,hc3,A,hA⟩:=hv'.2 hgen.symm
  have hcc:(E.H id).c=(H id).c:=hs.get (by rcases hc3 with h | h <;> rw [h] <;> nofun) (by rcases h1 with h1 | h1 <;> rw [h1] <;> nofun)
  rw [hcc] at hc3
  have hcl:(H id).c=.row e xs∨(H id).c=.frz e xs:=by rcases h1 with h1 | h1 <;> simp [h1]
  have:=row_inj hcl hc3
  injection this with q1 q2
  subst q1
  obtain rfl:=eq_of_heq q2
  exact ⟨A,_,hA.1⟩
theorem run_len_str {P:Program} (w:World) (t ty:TypeId) (b:ByteArray) (ht:P.underlying t=some .string):(Builtin.len_ #[t] ty #[.string b]).run P w=.ok (goInt b.size) w:=by
 simp [Builtin.len_,run_underlying ht]
theorem run_len_slice {P:Program} (w:World) (t e ty:TypeId) (A:Option Addr) (n c:Nat) (ht:P.underlying t=some (.slice e)):(Builtin.len_ #[t] ty #[.slice A n c]).run P w=.ok (goInt n) w:=by
 simp [Builtin.len_,run_underlying ht]
theorem ints_eval {s:St T} {E:Env T} {a:Act}:∀{l:List Operand} {ns:List Int},ints (l.map (ev s))=some ns→(∀x∈l,RepF E (ev s x) (a.eval x))→l.map a.eval=ns.map (Value.int .i64):=by
 intro l
 induction l with
 | nil=>intro ns h _;obtain rfl:=Option.some.inj h;rfl
 | cons x l ih=>
  intro ns h hx
  rw [List.map_cons] at h
  have h1:=hx x List.mem_cons_self
  unfold ints at h
  split at h
  ·rename_i he;cases he
  ·rename_i n r he
   injection he with e1 e2
   rw [e1,RepF] at h1
   subst e2
   split at h
   ·rename_i l' hl
    obtain rfl:=Option.some.inj h
    rw [List.map_cons,List.map_cons,rep_int.1 h1,ih hl (fun x hx'=>hx x (List.mem_cons_of_mem _ hx'))]
   ·cases h
  ·cases h
theorem run_max {P:Program} (w:World):∀(l:List Int) (a:Int),((l.map (Value.int .i64)).foldlM Builtin.max2 (Value.int .i64 a)).run P w=.ok (.int .i64 (maxI a l)) w:=by
 intro l
 induction l with
 | nil=>intro a;simp [maxI]
 | cons b l ih=>intro a;rw [List.map_cons,List.foldlM_cons,Sem.run_bind];simp only [Builtin.max2,Sem.run_pure,Result.andThen];rw [ih];rfl
theorem run_min {P:Program} (w:World):∀(l:List Int) (a:Int),((l.map (Value.int .i64)).foldlM Builtin.min2 (Value.int .i64 a)).run P w=.ok (.int .i64 (minI a l)) w:=by
 intro l
 induction l with
 | nil=>intro a;simp [minI]
 | cons b l ih=>intro a;rw [List.map_cons,List.foldlM_cons,Sem.run_bind];simp only [Builtin.min2,Sem.run_pure,Result.andThen];rw [ih];rfl
theorem l_cut {P:Program} (hT:TblOk P T) {o:Oper} {q:Bool} {s:St T} {t:TypeId} {x:Operand} {lo hi:Option Operand} (ho:o.op=.slice t x lo hi none) {id g:Nat} (hx:ev s x=.own id g) {K:FV T→(Nat→Slot T)→Option R} {r:R}
  (h:cutK T (T.ety t) q s.h id g (lo.map (ev s)) (hi.map (ev s)) K=some r):q=false∧∃v h',K v h'=some r∧LOk P o s v h':=by
 unfold cutK at h
 split at h
 ·rename_i k b g' e xs hlo hhi hid
  split at h
  ·rename_i hb1 hb2
   rw [Bool.and_eq_true] at hb1
   have hdr:id<HR:=Nat.le_of_ble_eq_true hb1.2
   obtain rfl:=beq_true hb1.1
   obtain ⟨e',hte,hz⟩:∃e',T.ety t=some (.lst e')∧szE T e'=szE T e:=by
    split at hb2
    ·rename_i e' he';exact ⟨e',he',beq_true hb2⟩
    ·cases hb2
   split at h
   ·rename_i h0
    split at h
    ·rename_i h1
     refine ⟨rfl,_,_,h,?_⟩
     intro B E a I hE hops next Q k'
     have hlo':lo=none:=by cases lo with | none=>rfl | some z=>cases hlo
     subst hlo'
     obtain ⟨z,rfl,hz2⟩:∃z,hi=some z∧ev s z=.d (.int k b):=by
      cases hi with
      | none=>cases hhi
      | some z=>exact ⟨z,rfl,Option.some.inj hhi⟩
     have ex:=hops x (by simp [Op.operands,ho])
     have ez:=hops z (by simp [Op.operands,ho])
     rw [hz2,RepF] at ez
     have ez:=rep_int.1 ez
     rw [hx] at ex
     have hH':E.H id=⟨g,.row e xs⟩:=by rw [hE,hid]
     obtain ⟨A,hA⟩:=own_hdr ex (by rw [hH']) (.inl (by rw [hH']))
     obtain ⟨t',hu,ht',inf,hinf,hsz⟩:=elem_size hT hte
     have hsl:=I.slot id
     unfold SlotOk at hsl
     rw [hH'] at hsl
     obtain ⟨hle0,I0⟩:=inv_drop I id (g+1) (by rw [hH'];exact Nat.lt_succ_self _)
     have hd0:(upd E.H id (⟨g+1,.none⟩:Slot T) id).c=.none:=by rw [upd_same]
     have hg0:(upd E.H id (⟨g+1,.none⟩:Slot T) id).g=g+1:=by rw [upd_same]
     have hcap:b.toNat≤E.κ id:=by have:=hsl.1;omega
     have hrun:(execOp a.eval o).run P E.w=.ok (.value (.slice A b.toNat (E.κ id))) E.w:=by
      simp only [execOp,ho,Option.map_none,Option.map_some]
      rw [hA.1,ez]
      simp only [Instr.sliceAt]
      rw [Sem.run_bind,Sem.run_bind,run_underlying hu]
      simp only [Result.andThen]
      simp only [Instr.slice]
      rw [Sem.run_bind,run_underlying hu]
      simp only [Result.andThen]
      have hb3:(Instr.sliceBounds true xs.length (E.κ id) none (some (.int k b)) none).run P E.w=.ok (0,b.toNat,E.κ id) E.w:=by
       have:b≤(E.κ id:Int):=by omega
       simp [Instr.sliceBounds,Instr.sliceBound,asIntOf,h0,this]
      rw [Sem.run_bind,hb3]
      simp only [Result.andThen]
      simp [sizeOf,typeInfo,hinf]
      intro hk0
      rw [hA.2 hk0,Option.map_some,add0]
     have key:∀E',EnvLe E E'→InvE B E'→E'.w=E.w→RepF E' (.own id (g+1)) (.slice A b.toNat (E.κ id))→E'.H=upd s.h id ⟨g+1,.row e (xs.take b.toNat)⟩→next (a.put o.dst (.slice A b.toNat (E.κ id))) E.w:=fun E' h1 h2 hw h3 h4=>by rw [←hw];exact k' E' _ h1 h2 h3 h4
     have hlenT:(xs.take b.toNat).length=b.toNat:=by rw [List.length_take];omega
     by_cases hκ:E.κ id=0
     ·obtain ⟨f1,f2⟩:=inv_fill (c:=.row e (xs.take b.toNat)) I0 E.w.heap.size 0 hd0 E.w (Nat.le_refl _) (fun _ _ _=>rfl) (fun _ h=>absurd (I0.slt _ _ h) (Nat.lt_irrefl _)) (fun id h e=>absurd (I0.own id h).2.1 (by rw [e];exact Nat.lt_irrefl _)) (.inl I0.size) (fun _ h=>by cases h) ⟨Nat.zero_le _,hdr⟩ rfl rfl rfl
       (by rintro (⟨cs,h⟩ | ⟨_,_,_,h⟩);exact absurd h (by intro h;cases h);exact absurd rfl h) (fun _=>by
        unfold SlotOk
        show match (upd (upd E.H id (⟨g+1,.none⟩:Slot T)) id (⟨(upd E.H id (⟨g+1,.none⟩:Slot T) id).g,.row e (xs.take b.toNat)⟩:Slot T) id).c with | .none=>_ | .box cs=>_ | .row e xs=>_ | .frz e xs=>_
        rw [upd_same]
        show (xs.take b.toNat).length≤upd E.κ id 0 id∧(upd E.κ id 0 id≠0→_)
        rw [upd_same]
        exact ⟨by rw [hlenT];omega,fun h=>absurd rfl h⟩)
      refine wp_value hrun (key _ (hle0.trans f1) f2 rfl ?_ ?_)
      ·rw [RepF]
       refine ⟨⟨?_,rfl⟩,fun _=>⟨e,xs.take b.toNat,.inl ?_,A,?_,?_⟩⟩
       ·show g+1≤(upd (upd E.H id (⟨g+1,.none⟩:Slot T)) id _ id).g
        rw [upd_same];show g+1≤(upd E.H id (⟨g+1,.none⟩:Slot T) id).g;rw [hg0];exact Nat.le_refl _
       ·show (upd (upd E.H id (⟨g+1,.none⟩:Slot T)) id _ id).c=_;rw [upd_same]
       ·show _=Value.slice _ _ (upd E.κ id 0 id);rw [upd_same,hlenT,hκ]
       ·show upd E.κ id 0 id≠0→_;rw [upd_same];exact fun h=>absurd rfl h
      ·show upd (upd E.H id (⟨g+1,.none⟩:Slot T)) id _=_
       rw [hE]
       funext j
       by_cases e':j=id
       ·subst e';rw [upd_same,upd_same];show (⟨(upd s.h j (⟨g+1,.none⟩:Slot T) j).g,_⟩:Slot T)=_;rw [upd_same]
       ·rw [upd_other _ _ e',upd_other _ _ e',upd_other _ _ e']
     ·obtain ⟨arr,tt,s1,s2,s3⟩:=hsl.2 hκ
      have hHas:Has E id:=.inr ⟨e,xs,by rw [hH'],hκ⟩
      have hown:=I.own id hHas
      have hne:∀id',Has (⟨E.w,E.S,E.η,E.κ,upd E.H id ⟨g+1,.none⟩⟩:Env T) id'→E.η id'≠E.η id:=by
       intro id' h' he
       have hne:id'≠id:=by
        rintro rfl
        unfold Has at h'
        rcases h' with ⟨cs,h'⟩ | ⟨_,_,h',_⟩
        ·have h2:(upd E.H id' (⟨g+1,.none⟩:Slot T) id').c=.box cs:=h'
         rw [upd_same] at h2;cases h2
        ·have h2:(upd E.H id' (⟨g+1,.none⟩:Slot T) id').c=_:=h'
         rw [upd_same] at h2;cases h2
       exact hne (I.inj id' id (has_same (E:=E) h' (upd_other _ _ hne) rfl) hHas he)
      obtain ⟨f1,f2⟩:=inv_fill (c:=.row e (xs.take b.toNat)) I0 (E.η id) (E.κ id) hd0 E.w (Nat.le_refl _) (fun _ _ _=>rfl) hown.1 hne hown.2.2 (fun _ h=>by cases h) ⟨(I.cap id e xs (by rw [hH'])).1,hdr⟩ rfl rfl rfl (fun _=>hown.2.1) (fun _=>by
       unfold SlotOk
       show match (upd (upd E.H id (⟨g+1,.none⟩:Slot T)) id (⟨(upd E.H id (⟨g+1,.none⟩:Slot T) id).g,.row e (xs.take b.toNat)⟩:Slot T) id).c with | .none=>_ | .box cs=>_ | .row e xs=>_ | .frz e xs=>_
       rw [upd_same]
       show (xs.take b.toNat).length≤upd E.κ id (E.κ id) id∧(upd E.κ id (E.κ id) id≠0→∃arr t,E.w.heap[upd E.η id (E.η id) id]?=some (.cells arr t (0,0))∧arr.size=upd E.κ id (E.κ id) id*szE T e∧(T.str e=true→Kinds T e (upd E.κ id (E.κ id) id) (fun k=>arr[k]?))∧Elems T E.w E.S e (xs.take b.toNat) (fun k=>arr[k]?))
       rw [upd_same,upd_same]
       refine ⟨by rw [hlenT];omega,fun _=>⟨arr,tt,s1,s2,s3.1,fun i y hi=>s3.2 i y ?_⟩⟩
       rcases Nat.lt_or_ge i b.toNat with h' | h'
       ·rw [List.getElem?_take_of_lt h'] at hi;exact hi
       ·rw [List.getElem?_take_eq_none h'] at hi;cases hi)
      refine wp_value hrun (key _ (hle0.trans f1) f2 rfl ?_ ?_)
      ·rw [RepF]
       refine ⟨⟨?_,rfl⟩,fun _=>⟨e,xs.take b.toNat,.inl ?_,A,?_,?_⟩⟩
       ·show g+1≤(upd (upd E.H id (⟨g+1,.none⟩:Slot T)) id _ id).g
        rw [upd_same];show g+1≤(upd E.H id (⟨g+1,.none⟩:Slot T) id).g;rw [hg0];exact Nat.le_refl _
       ·show (upd (upd E.H id (⟨g+1,.none⟩:Slot T)) id _ id).c=_;rw [upd_same]
       ·show _=Value.slice _ _ (upd E.κ id (E.κ id) id);rw [upd_same,hlenT]
       ·show upd E.κ id (E.κ id) id≠0→A=some ⟨upd E.η id (E.η id) id,0,none⟩;rw [upd_same,upd_same];exact hA.2
      ·show upd (upd E.H id (⟨g+1,.none⟩:Slot T)) id _=_
       rw [hE]
       funext j
       by_cases e':j=id
       ·subst e';rw [upd_same,upd_same];show (⟨(upd s.h j (⟨g+1,.none⟩:Slot T) j).g,_⟩:Slot T)=_;rw [upd_same]
       ·rw [upd_other _ _ e',upd_other _ _ e',upd_other _ _ e']
    ·cases h
   ·cases h
  ·cases h
 ·cases h
end
end Go.Proofs.YtggmgmkhohmfiaaGreat.PE
namespace Go.Proofs.YtggmgmkhohmfiaaGreat.PE
noncomputable section
set_option linter.unusedVariables false
open Go Go.RowKit
variable {T:Tbl} {R:Type}
def E0 (T:Tbl) (w:World) (S:E→Nat→Prop):Env T:=⟨w,S,fun _=>0,fun _=>0,fun _=>⟨0,.none⟩⟩
mutual
def isPure:FV T→Bool
 | .d _=>true
 | .lit _=>true
 | .prp _ _=>true
 | .nil=>true
 | .agg cs=>isPureL cs
 | .tup cs=>isPureL cs
 | _=>false
def isPureL:List (FV T)→Bool
 | []=>true
 | c::cs=>isPure c&&isPureL cs
end
mutual
theorem pure_mono {E E':Env T} (h:∀e b,E.S e b→E'.S e b∧E'.w.heap[b]?=E.w.heap[b]?):∀(v:FV T) (cv:Value),isPure v=true→RepF E v cv→RepF E' v cv
 | .d x,cv,_,k=>by rw [RepF] at k⊢;exact k.mono h
 | .lit b,cv,_,k=>by rw [RepF] at k⊢;exact k
 | .prp p i,cv,_,k=>by rw [RepF] at k⊢;exact k
 | .nil,cv,_,k=>by rw [RepF] at k⊢;exact k
 | .agg cs,cv,hp,k=>by rw [RepF] at k⊢;obtain ⟨vs,h1,h2⟩:=k;exact ⟨vs,h1,pureL_mono h cs vs (by simpa [isPure] using hp) h2⟩
 | .tup cs,cv,hp,k=>by rw [RepF] at k⊢;obtain ⟨vs,h1,h2⟩:=k;exact ⟨vs,h1,pureL_mono h cs vs (by simpa [isPure] using hp) h2⟩
 | .own _ _,cv,hp,_=>by simp [isPure] at hp
 | .oel _ _ _ _,cv,hp,_=>by simp [isPure] at hp
 | .ptr _ _ _,cv,hp,_=>by simp [isPure] at hp
 | .elp _ _ _ _,cv,hp,_=>by simp [isPure] at hp
 | .clo _ _,cv,hp,_=>by simp [isPure] at hp
 | .non,cv,hp,_=>by simp [isPure] at hp
theorem pureL_mono {E E':Env T} (h:∀e b,E.S e b→E'.S e b∧E'.w.heap[b]?=E.w.heap[b]?):∀(cs:List (FV T)) (vs:List Value),isPureL cs=true→RepL E cs vs→RepL E' cs vs
 | [],vs,_,k=>by rw [RepL] at k⊢;exact k
 | c::cs,vs,hp,k=>by
  rw [RepL] at k⊢
  obtain ⟨v,r,h1,h2,h3⟩:=k
  rw [isPureL,Bool.and_eq_true] at hp
  exact ⟨v,r,h1,pure_mono h c v hp.1 h2,pureL_mono h cs r hp.2 h3⟩
end
theorem plain_any {E E':Env T}:∀(n:Nat) (v:FV T) (cv:Value),SizeOf.sizeOf v<n→plain1 v=true→RepF E v cv→RepF E' v cv:=by
 intro n
 induction n with
 | zero=>intro v cv h;omega
 | succ n ih=>
  have goL:∀(cs:List (FV T)) (vs:List Value),SizeOf.sizeOf cs<n+1→plain1.go cs=true→RepL E cs vs→RepL E' cs vs:=by
   intro cs
   induction cs with
   | nil=>intro vs _ _ h;rw [RepL] at h⊢;exact h
   | cons c cs ihc=>
    intro vs hs hp h
    rw [RepL] at h⊢
    obtain ⟨v,r,h1,h2,h3⟩:=h
    unfold plain1.go at hp
    simp only [List.cons.sizeOf_spec] at hs
    split at hp
    ·rename_i hc
     exact ⟨v,r,h1,ih c v (by omega) hc h2,ihc r (by omega) hp h3⟩
    ·cases hp
  intro v cv hs hp h
  cases v with
  | d x=>
   cases x with
   | int k m=>rw [RepF] at h⊢;exact rep_int.2 (rep_int.1 h)
   | bool b=>rw [RepF] at h⊢;exact rep_bool.2 (rep_bool.1 h)
   | str b=>rw [RepF] at h⊢;exact rep_str.2 (rep_str.1 h)
   | lst e xs=>simp [plain1] at hp
   | nil=>rw [RepF] at h⊢;exact rep_nil.2 (rep_nil.1 h)
  | lit b=>rw [RepF] at h⊢;exact h
  | prp p i=>rw [RepF] at h⊢;exact h
  | agg cs=>
   rw [RepF] at h⊢
   obtain ⟨vs,h1,h2⟩:=h
   simp only [FV.agg.sizeOf_spec] at hs
   exact ⟨vs,h1,goL cs vs (by omega) (by simpa [plain1] using hp) h2⟩
  | tup cs=>
   rw [RepF] at h⊢
   obtain ⟨vs,h1,h2⟩:=h
   simp only [FV.tup.sizeOf_spec] at hs
   exact ⟨vs,h1,goL cs vs (by omega) (by simpa [plain1] using hp) h2⟩
  | _=>simp [plain1] at hp
def Post (T:Tbl) (w:World) (S:E→Nat→Prop) (res:FV T) (e:Ending) (w':World):Prop:=
 ∃v S',e=.returned v∧Below w.heap.size w w'∧(∀e b,S e b→S' e b)∧(∀e b,S' e b→b<w.heap.size→S e b)∧(∀e b,S' e b→b<w'.heap.size)∧RepF (E0 T w' S') res v
def Contract (P:Program) (T:Tbl) (n:FuncId) (args:List (FV T)) (res:FV T):Prop:=
 ∀(w:World) (S:E→Nat→Prop) (cargs:List Value),(∀e b,S e b→b<w.heap.size)→RepL (E0 T w S) args cargs→Calls P n cargs.toArray w (Post T w S res)
def Enters (P:Program) (n:FuncId):Prop:=∀(args:Array Value) (w:World),(callFunc n args).run P w=.ok (.enter n args) w
def LCon (P:Program) (T:Tbl) (n:FuncId) (args:List (FV T)) (h:Nat→Slot T) (res:FV T) (h':Nat→Slot T):Prop:=
 ∀(B:Base) (E:Env T) (cargs:List Value),InvE B E→E.H=h→RepL E args cargs→Calls P n cargs.toArray E.w (fun e w'=>∃E' v,e=.returned v∧E'.w=w'∧EnvLe E E'∧InvE B E'∧RepF E' res v∧E'.H=h')
def RCon (P:Program) (T:Tbl) (n:FuncId) (args:List (FV T)) (h:Nat→Slot T) (Φ:FV T→(Nat→Slot T)→Prop):Prop:=
 ∀(B:Base) (E:Env T) (cargs:List Value),InvE B E→E.H=h→RepL E args cargs→Calls P n cargs.toArray E.w (fun e w'=>∃res h' E' v,Φ res h'∧e=.returned v∧E'.w=w'∧EnvLe E E'∧InvE B E'∧RepF E' res v∧E'.H=h')
structure Rel (B:Base) (E:Env T) (f:Nat→FV T) (a:Act) (N:Nat):Prop where
 inv:InvE B E
 size:a.tmps.size=N
 frame:∀t,RepF E (f t) (a.tmps.getD t undef)
 defers:a.defers=[]
structure CalOk (P:Program) (T:Tbl) (cal:Cal T R):Prop where
 q:∀n args K r,cal.q n args K=some r→∃res,isPure res=true∧Enters P n∧Contract P T n args res∧K res=some r
 l:∀n d args h K r,cal.rel n=false→cal.l n d args h K=some r→∃res h',Enters P n∧LCon P T n args h res h'∧K res h'=some r
 rl:∀n d args h K r,cal.rel n=true→cal.l n d args h K=some r→Enters P n∧RCon P T n args h (fun res h'=>K res h'=some r)
 rg:∀N (ops:Array Oper) s G,cal.rg N ops.toList s=some G→drawOk ops.toList=true→∀K r,G K=some r→∀B,cal.nar B→∀(E:Env T) a,Rel B E s.f a N→E.H=s.h→∀Q:Exit→Act→World→Prop,(∀s' E' a',K s'=some r→Rel B E' s'.f a' N→E'.H=s'.h→Q .normal a' E'.w)→wpAny P .any ops Q ops.size (Array.replicate ops.size false) a E.w
 hv:∀N o s G,cal.hv N o s=some G→∀K r,G K=some r→∀B,cal.nar B→∀(E:Env T) a,Rel B E s.f a N→E.H=s.h→∀next Q,(∀s' E' a',K s'=some r→Rel B E' s'.f a' N→E'.H=s'.h→next a' E'.w)→Oper.wp P o a E.w next Q
theorem dyn1_sub {E:Env T} {H:Nat→Slot T} (hs:Sub E.H H) {v:FV T} {cv:Value} {y:Dyn T.ST} (hv:RepF E v cv) (hy:dyn1 H v=some y):dyn1 E.H v=some y:=by
 by_cases ho:isOwn v=true
 ·cases v with
  | own id g=>
   obtain ⟨e,xs,h1,rfl⟩:=dyn1_own hy
   have hgen:(E.H id).g=g:=by rw [(hs id).1];rcases h1 with h1 | h1 <;> rw [h1]
   rw [RepF] at hv
   obtain ⟨e3,xs3,hc3,_⟩:=hv.2 hgen.symm
   have hcc:(E.H id).c=(H id).c:=hs.get (by rcases hc3 with h | h <;> rw [h] <;> nofun) (by rcases h1 with h1 | h1 <;> rw [h1] <;> nofun)
   have:E.H id=H id:=by
    cases h2:E.H id with
    | mk g2 c2=>
    cases h3:H id with
    | mk g3 c3=>
    rw [h2,h3] at hcc
    have hg:=(hs id).1
    rw [h2,h3] at hg
    simp only at hcc hg
    rw [hcc,hg]
   unfold dyn1 at hy⊢
   simp only [this] at hy⊢
   exact hy
  | _=>cases ho
 ·cases v <;> first | exact hy | exact absurd rfl ho
theorem pure1_ok {E E2:Env T} {H:Nat→Slot T} (hs:Sub E.H H) {v v':FV T} {cv:Value} (hv:RepF E v cv) (h:pure1 H v=some v') (hk:∀y,dyn1 E.H v=some y→Rep T E2.w E2.S y cv):isPure v'=true∧RepF E2 v' cv:=by
 cases v with
 | d x=>obtain rfl:=Option.some.inj h;exact ⟨rfl,by rw [RepF];exact hk x rfl⟩
 | lit b=>obtain rfl:=Option.some.inj h;exact ⟨rfl,by rw [RepF];exact hk _ rfl⟩
 | prp p i=>obtain rfl:=Option.some.inj h;exact ⟨rfl,by rw [RepF];exact hk _ rfl⟩
 | own id g=>
  unfold pure1 at h
  simp only at h
  split at h
  ·rename_i x hx
   obtain rfl:=Option.some.inj h
   exact ⟨rfl,by rw [RepF];exact hk x (dyn1_sub hs hv hx)⟩
  ·cases h
 | nil=>obtain rfl:=Option.some.inj h;exact ⟨rfl,by rw [RepF] at hv⊢;exact hv⟩
 | _=>cases h
theorem pureL_ok {E E2:Env T} {H:Nat→Slot T} (hs:Sub E.H H):∀{cs cs':List (FV T)} {vs:List Value},RepL E cs vs→pureL H cs=some cs'→(∀c cv y,c∈cs→RepF E c cv→dyn1 E.H c=some y→Rep T E2.w E2.S y cv)→isPureL cs'=true∧RepL E2 cs' vs:=by
 intro cs
 induction cs with
 | nil=>intro cs' vs h k _;obtain rfl:=Option.some.inj k;rw [RepL] at h;exact ⟨rfl,by rw [RepL];exact h⟩
 | cons c cs ih=>
  intro cs' vs h k hk
  rw [RepL] at h
  obtain ⟨v,r,rfl,h1,h2⟩:=h
  unfold pureL at k
  split at k
  ·rename_i x xs hx hxs
   obtain rfl:=Option.some.inj k
   obtain ⟨a1,a2⟩:=pure1_ok hs h1 hx (fun y hy=>hk c v y List.mem_cons_self h1 hy)
   obtain ⟨b1,b2⟩:=ih h2 hxs (fun c cv y hc=>hk c cv y (List.mem_cons_of_mem _ hc))
   exact ⟨by rw [isPureL,a1,b1];rfl,by rw [RepL];exact ⟨v,r,rfl,a2,b2⟩⟩
  ·cases k
theorem pureF_ok {E E2:Env T} {H:Nat→Slot T} (hs:Sub E.H H) {v v':FV T} {cv:Value} (hv:RepF E v cv) (h:pureF H v=some v') (hk:∀c cv y,(c=v∨∃cs,v=.agg cs∧c∈cs)→RepF E c cv→dyn1 E.H c=some y→Rep T E2.w E2.S y cv):isPure v'=true∧RepF E2 v' cv:=by
 unfold pureF at h
 split at h
 ·rename_i cs
  split at h
  ·rename_i l hl
   obtain rfl:=Option.some.inj h
   rw [RepF] at hv
   obtain ⟨vs,rfl,hr⟩:=hv
   obtain ⟨a1,a2⟩:=pureL_ok (E2:=E2) hs hr hl (fun c cv y hc=>hk c cv y (.inr ⟨cs,rfl,hc⟩))
   exact ⟨by rw [isPure];exact a1,by rw [RepF];exact ⟨vs,rfl,a2⟩⟩
  ·cases h
 ·exact pure1_ok hs hv h (fun y hy=>hk v cv y (.inl rfl) hv hy)
theorem pureFs_ok {E E2:Env T} {H:Nat→Slot T} (hs:Sub E.H H):∀{cs cs':List (FV T)} {vs:List Value},RepL E cs vs→pureFs H cs=some cs'→(∀v c cv y,v∈cs→(c=v∨∃l,v=.agg l∧c∈l)→RepF E c cv→dyn1 E.H c=some y→Rep T E2.w E2.S y cv)→isPureL cs'=true∧RepL E2 cs' vs:=by
 intro cs
 induction cs with
 | nil=>intro cs' vs h k _;obtain rfl:=Option.some.inj k;rw [RepL] at h;exact ⟨rfl,by rw [RepL];exact h⟩
 | cons c cs ih=>
  intro cs' vs h k hk
  rw [RepL] at h
  obtain ⟨v,r,rfl,h1,h2⟩:=h
  unfold pureFs at k
  split at k
  ·rename_i x xs hx hxs
   obtain rfl:=Option.some.inj k
   obtain ⟨a1,a2⟩:=pureF_ok (E2:=E2) hs h1 hx (fun c' cv y hc=>hk c c' cv y List.mem_cons_self hc)
   obtain ⟨b1,b2⟩:=ih h2 hxs (fun v c cv y hv=>hk v c cv y (List.mem_cons_of_mem _ hv))
   exact ⟨by rw [isPureL,a1,b1];rfl,by rw [RepL];exact ⟨v,r,rfl,a2,b2⟩⟩
  ·cases k
theorem inv_call {B:Base} {E:Env T} (I:InvE B E) {w':World} {S':Ty→Nat→Prop} (hb:Below E.w.heap.size E.w w') (h1:∀e b,E.S e b→S' e b) (h2:∀e b,S' e b→b<E.w.heap.size→E.S e b) (h3:∀e b,S' e b→b<w'.heap.size):
  EnvLe E ⟨w',S',E.η,E.κ,E.H⟩∧InvE B ⟨w',S',E.η,E.κ,E.H⟩:=by
 have hle:EnvLe E ⟨w',S',E.η,E.κ,E.H⟩:=⟨hb.size,fun e b hs=>⟨h1 e b hs,hb.block b (I.slt e b hs)⟩,fun _=>Nat.le_refl _,fun id _ hn=>⟨((EnvLe.refl E).same id rfl hn).1,rfl,rfl⟩⟩
 refine ⟨hle,?_,?_,I.inj,I.rowl,h3,fun e b hs=>h1 e b (I.s0 e b hs),fun e b hs hlt=>I.s1 e b (h2 e b hs (Nat.lt_of_lt_of_le hlt I.size)) hlt,hb.os.trans I.os,hb.tape.trans I.tape,hb.output.trans I.output,Nat.le_trans I.size hb.size,?_,I.fxd,I.cap⟩
 ·intro id;exact slot_mono hle rfl rfl rfl (fun h=>hb.block _ (I.own id h).2.1) (I.slot id)
 ·intro id h
  have:=I.own id h
  exact ⟨fun e hs=>this.1 e (h2 e _ hs this.2.1),Nat.lt_of_lt_of_le this.2.1 hb.size,this.2.2⟩
 ·intro k hk hm
  exact (hb.block k (Nat.lt_of_lt_of_le hk I.size)).trans (I.blk k hk hm)
theorem map_reps {E:Env T} {s:St T} {a:Act} {l:List Operand} (h:∀x∈l,RepF E (ev s x) (a.eval x)):RepL E (l.map (ev s)) (l.map a.eval):=by
 refine RepL.mk (by rw [List.length_map,List.length_map]) fun i c v h1 h2=>?_
 rw [List.getElem?_map] at h1 h2
 obtain ⟨x,hx,rfl⟩:=Option.map_eq_some_iff.1 h1
 rw [hx] at h2
 obtain rfl:=Option.some.inj h2
 exact h x (List.mem_of_getElem? hx)
theorem call_wp {P:Program} {o:Oper} {c:Call} {f:Operand} {n:FuncId} {caps:List Value} (ho:o.op=.call c) (hc:c.callee=.value f) (hent:Enters P n) {a:Act} {w:World} (hf:a.eval f=.func (.func n) #[] caps.toArray)
  {next:Act→World→Prop} {Q:Exit→Act→World→Prop} {R':Ending→World→Prop} (hcall:Calls P n (c.args.toList.map a.eval++caps).toArray w R') (hk:∀e w',R' e w'→∃v,e=.returned v∧next (a.put o.dst v) w'):Oper.wp P o a w next Q:=by
 have hrun:(execOp a.eval o).run P w=.ok (.enter n (c.args.toList.map a.eval++caps).toArray) w:=by
  have he:=hent (c.args.toList.map a.eval++caps).toArray w
  have hargs:c.args.map a.eval++caps.toArray=(c.args.toList.map a.eval++caps).toArray:=by
   apply Array.ext'
   simp
  unfold execOp
  simp only [ho,resolve,hc,hf,Deferred.ofValue,invoke]
  simp [hargs,he]
 unfold Oper.wp
 rw [hrun]
 show Calls P n _ w _
 refine hcall.mono fun e w' hR=>?_
 obtain ⟨v,rfl,hn⟩:=hk e w' hR
 exact hn
theorem call_core {P:Program} {B:Base} {o:Oper} {c:Call} {f:Operand} {s:St T} {n:FuncId} {caps ars:List (FV T)} {res:FV T} (ho:o.op=.call c) (hc:c.callee=.value f) (hf:ev s f=.clo n caps)
  (has:pureFs s.h (c.args.toList.map (ev s)++caps)=some ars) (hp:isPure res=true) (hent:Enters P n) (hcon:Contract P T n ars res) {E:Env T} {a:Act} (I:InvE B E) (hs:Sub E.H s.h) (hops:OpsOk E o s a)
  {next:Act→World→Prop} {Q:Exit→Act→World→Prop}:
  (plain1 res=true→(∀E' cv,EnvLe E E'→InvE B E'→RepF E' res cv→E'.H=E.H→next (a.put o.dst cv) E'.w)→Oper.wp P o a E.w next Q)∧
  ((∀E' cv,EnvLe E E'→InvE B E'→RepF E' res cv→E'.H=frzFs E.H (c.args.toList.map (ev s)++caps)→next (a.put o.dst cv) E'.w)→Oper.wp P o a E.w next Q):=by
 have hf':=hops f (by simp [Op.operands,Call.operands,ho,hc])
 rw [hf,RepF] at hf'
 obtain ⟨vs,hfv,hvs⟩:=hf'
 have hargs:RepL E (c.args.toList.map (ev s)++caps) (c.args.toList.map a.eval++vs):=(map_reps (fun x hx=>hops x (by simp [Op.operands,Call.operands,ho,hx]))).append hvs
 obtain ⟨E1,w1,H1,le1,I1,k1⟩:=frzFs_ok (c.args.toList.map (ev s)++caps) E I
 obtain ⟨p1,p2⟩:=pureFs_ok (E2:=E1) hs hargs has (fun v c cv y hv hc hr hd=>k1 E1 v c cv y hv hc (EnvLe.refl E1) I1 hr hd)
 have hcall:=hcon E1.w E1.S (c.args.toList.map a.eval++vs) I1.slt (pureL_mono (E:=E1) (E':=E0 T E1.w E1.S) (fun _ b hb=>⟨hb,rfl⟩) _ _ p1 p2)
 rw [w1] at hcall
 constructor
 ·intro hpl k
  refine call_wp ho hc hent hfv hcall fun e w' hR=>?_
  obtain ⟨v,S',rfl,hb,q1,q2,q3,q4⟩:=hR
  refine ⟨v,rfl,?_⟩
  obtain ⟨l1,i1⟩:=inv_call (S':=fun e b=>S' e b∧(b<E.w.heap.size→E.S e b)) I hb (fun e b h=>⟨q1 e b (le1.bl e b h).1,fun _=>h⟩) (fun e b h hlt=>h.2 hlt) (fun e b h=>q3 e b h.1)
  exact k _ v l1 i1 (plain_any (SizeOf.sizeOf res+1) res v (Nat.lt_succ_self _) hpl q4) rfl
 ·intro k
  refine call_wp ho hc hent hfv hcall fun e w' hR=>?_
  obtain ⟨v,S',rfl,hb,q1,q2,q3,q4⟩:=hR
  refine ⟨v,rfl,?_⟩
  obtain ⟨l1,i1⟩:=inv_call (S':=S') I1 (by rw [w1];exact hb) q1 (fun e b h hlt=>q2 e b h (by rw [←w1];exact hlt)) q3
  exact k _ v (le1.trans l1) i1 (pure_mono (E:=E0 T w' S') (E':=⟨w',S',E1.η,E1.κ,E1.H⟩) (fun _ b h=>⟨h,rfl⟩) res v hp q4) H1
theorem call_core2 {P:Program} {B:Base} {o:Oper} {c:Call} {f:Operand} {s:St T} {n:FuncId} {caps:List (FV T)} {res:FV T} {h':Nat→Slot T} (ho:o.op=.call c) (hc:c.callee=.value f) (hf:ev s f=.clo n caps)
  (hent:Enters P n) (hcon:LCon P T n (c.args.toList.map (ev s)++caps) s.h res h') {E:Env T} {a:Act} (I:InvE B E) (hE:E.H=s.h) (hops:OpsOk E o s a)
  {next:Act→World→Prop} {Q:Exit→Act→World→Prop} (k:∀E' cv,EnvLe E E'→InvE B E'→RepF E' res cv→E'.H=h'→next (a.put o.dst cv) E'.w):Oper.wp P o a E.w next Q:=by
 have hf':=hops f (by simp [Op.operands,Call.operands,ho,hc])
 rw [hf,RepF] at hf'
 obtain ⟨vs,hfv,hvs⟩:=hf'
 have hargs:RepL E (c.args.toList.map (ev s)++caps) (c.args.toList.map a.eval++vs):=(map_reps (fun x hx=>hops x (by simp [Op.operands,Call.operands,ho,hx]))).append hvs
 refine call_wp ho hc hent hfv (hcon B E _ I hE hargs) fun e w' hR=>?_
 obtain ⟨E',v,rfl,rfl,h1,h2,h3,h4⟩:=hR
 exact ⟨v,rfl,k E' v h1 h2 h3 h4⟩
theorem call_core3 {P:Program} {B:Base} {o:Oper} {c:Call} {f:Operand} {s:St T} {n:FuncId} {caps:List (FV T)} {Φ:FV T→(Nat→Slot T)→Prop} (ho:o.op=.call c) (hc:c.callee=.value f) (hf:ev s f=.clo n caps)
  (hent:Enters P n) (hcon:RCon P T n (c.args.toList.map (ev s)++caps) s.h Φ) {E:Env T} {a:Act} (I:InvE B E) (hE:E.H=s.h) (hops:OpsOk E o s a)
  {next:Act→World→Prop} {Q:Exit→Act→World→Prop} (k:∀res h' E' cv,Φ res h'→EnvLe E E'→InvE B E'→RepF E' res cv→E'.H=h'→next (a.put o.dst cv) E'.w):Oper.wp P o a E.w next Q:=by
 have hf':=hops f (by simp [Op.operands,Call.operands,ho,hc])
 rw [hf,RepF] at hf'
 obtain ⟨vs,hfv,hvs⟩:=hf'
 have hargs:RepL E (c.args.toList.map (ev s)++caps) (c.args.toList.map a.eval++vs):=(map_reps (fun x hx=>hops x (by simp [Op.operands,Call.operands,ho,hx]))).append hvs
 refine call_wp ho hc hent hfv (hcon B E _ I hE hargs) fun e w' hR=>?_
 obtain ⟨res,h',E',v,hΦ,rfl,rfl,h1,h2,h3,h4⟩:=hR
 exact ⟨v,rfl,k res h' E' v hΦ h1 h2 h3 h4⟩
end
end Go.Proofs.YtggmgmkhohmfiaaGreat.PE
namespace Go.Proofs.YtggmgmkhohmfiaaGreat.PE
noncomputable section
set_option linter.unusedVariables false
open Go Go.RowKit
variable {T:Tbl} {R:Type}
structure Done (P:Program) (o:Oper) (q:Bool) (s:St T) (v:FV T) (h':Nat→Slot T):Prop where
 l:LOk P o s v h'
 q:q=true→∃δ,h'=app δ s.h∧(∀d c,δ=some (d,c)→o.dst=some d∧(s.h d).c=.none)∧QOk P o s v δ
theorem Done.ofQ {P:Program} {o:Oper} {q:Bool} {s:St T} {v:FV T} (h:QOk P o s v none):Done P o q s v s.h:=⟨h.l (fun d c h=>by cases h),fun _=>⟨none,rfl,(fun d c h=>by cases h),h⟩⟩
theorem Done.of0 {P:Program} {o:Oper} {q:Bool} {s:St T} {v:FV T} (h:Q0 P o s v):Done P o q s v s.h:=Done.ofQ h.q
theorem Done.ofD {P:Program} {o:Oper} {q:Bool} {s:St T} {v:FV T} {d:Nat} {c:Cont T} (hd:o.dst=some d) (hn:isNone (s.h d).c=true) (h:QOk P o s v (some (d,c))):Done P o q s v (upd s.h d ⟨(s.h d).g,c⟩):=
 ⟨h.l (fun d' c' h'=>by cases h';exact isNone_eq hn),fun _=>⟨some (d,c),rfl,fun d' c' h'=>by cases h';exact ⟨hd,isNone_eq hn⟩,h⟩⟩
theorem Done.ofL {P:Program} {o:Oper} {s:St T} {v:FV T} {h':Nat→Slot T} (h:LOk P o s v h'):Done P o false s v h':=⟨h,fun h=>by cases h⟩
theorem q_un {P:Program} {o:Oper} {s:St T} {op:UnOp} {t:TypeId} {x:Operand} (ho:o.op=.unOp op t x) {K:FV T→Option R} {r:R} (h:unK op (ev s x) K=some r):∃v,K v=some r∧Q0 P o s v:=by
 unfold unK at h
 split at h
 ·rename_i b hx
  refine ⟨_,h,fun B E a _ hops=>⟨.bool (!b),?_,by rw [RepF]⟩⟩
  have e1:=hops x (by simp [Op.operands,ho])
  rw [hx,RepF] at e1
  simp [execOp,ho,e1,Op.unary]
 ·rename_i p i hx
  refine ⟨_,h,fun B E a _ hops=>⟨.bool (!(@decide p i)),?_,?_⟩⟩
  ·have e1:=hops x (by simp [Op.operands,ho])
   rw [hx,RepF] at e1
   simp [execOp,ho,e1,Op.unary]
  ·rw [RepF]
   congr 1
   by_cases hp:p <;> simp [hp]
 ·rename_i b hx
  refine ⟨_,h,fun B E a _ hops=>⟨.bool (!b),?_,by rw [RepF];exact rep_bool.2 rfl⟩⟩
  have e1:=hops x (by simp [Op.operands,ho])
  rw [hx,RepF] at e1
  simp [execOp,ho,rep_bool.1 e1,Op.unary]
 ·rename_i k n hx
  refine ⟨_,h,fun B E a _ hops=>⟨.int k (k.wrap (0 - n)),?_,by rw [RepF,wr_eq];exact rep_int.2 rfl⟩⟩
  have e1:=hops x (by simp [Op.operands,ho])
  rw [hx,RepF] at e1
  simp [execOp,ho,rep_int.1 e1,Op.unary,Op.intArith]
 ·cases h
theorem list_eq_iff (a b:ByteArray):(a.toList==b.toList)=decide (a=b):=by
 by_cases h:a=b
 ·subst h;simp
 ·have:a.toList≠b.toList:=fun e=>h (by
   apply ByteArray.ext
   apply Array.ext'
   rw [←ByteArray.toList_eq a,←ByteArray.toList_eq b,e])
  simp [h,this]
theorem boolV_rep {E:Env T} {v:FV T} {b:Bool} {cv:Value} (h:boolV v=some b) (hv:RepF E v cv):cv=.bool b:=by
 unfold boolV at h
 split at h
 ·obtain rfl:=Option.some.inj h;rw [RepF] at hv;exact rep_bool.1 hv
 ·obtain rfl:=Option.some.inj h;rw [RepF] at hv;exact hv
 ·obtain rfl:=Option.some.inj h;rw [RepF] at hv;exact hv
 ·cases h
theorem run_eqlIn_bool {P:Program} (w:World) (d:Nat) (t:TypeId) (a b:Bool) (h:P.underlying t=some .bool):(Op.equalIn (d+1) t (.bool a) (.bool b)).run P w=.ok (a==b) w:=by
 unfold Op.equalIn
 simp [run_underlying h]
theorem run_eql_bool {P:Program} (w:World) (t:TypeId) (a b:Bool) (h:P.underlying t=some .bool):(Op.equal t (.bool a) (.bool b)).run P w=.ok (a==b) w:=
 run_eqlIn_bool w 9999 t a b h
theorem q_bin {P:Program} (hT:TblOk P T) {o:Oper} {s:St T} {op:BinOp} {t t2:TypeId} {X Y:Operand} (ho:o.op=.binOp op t X Y t2) {K:FV T→Option R} {r:R} (h:binK (T.ety t) op (ev s X) (ev s Y) K=some r):∃v,K v=some r∧Q0 P o s v:=by
 unfold binK at h
 split at h
 ·rename_i k a k' b hx hy
  split at h
  ·rename_i hk
   have hk:=of_decide_eq_true hk
   subst hk
   exact q_binI ho hx hy h
  ·exact q_shK ho hx hy h
 ·rename_i a b hx hy
  have run:∀(E:Env T) (ac:Act),OpsOk E o s ac→∀cv,(Op.stringOp op a b).run P E.w=.ok cv E.w→(execOp ac.eval o).run P E.w=.ok (.value cv) E.w:=by
   intro E ac hops cv hcv
   have e1:=hops X (by simp [Op.operands,ho])
   have e2:=hops Y (by simp [Op.operands,ho])
   rw [hx,RepF] at e1
   rw [hy,RepF] at e2
   simp only [execOp,ho,rep_str.1 e1,rep_str.1 e2]
   have hguard:(eqGuard op t X Y (.string a) (.string b)).run P E.w=.ok () E.w:=by
    unfold eqGuard
    cases op <;> simp
   have hbin:Go.binOp op t (.string a) (.string b)=Op.stringOp op a b:=by cases op <;> rfl
   rw [hbin]
   simp [hguard,hcv]
  split at h
  ·split at h
   ·rename_i hsz
    refine ⟨_,h,fun B E ac _ hops=>⟨.string (a++b),run E ac hops _ ?_,by rw [RepF];exact rep_str.2 rfl⟩⟩
    have:¬(((a.size+b.size:Nat):Int)>IntKind.i64.max):=by
     show ¬(((a.size+b.size:Nat):Int)>9223372036854775807)
     omega
    simp only [Op.stringOp]
    rw [if_neg this]
    rfl
   ·cases h
  ·refine ⟨_,h,fun B E ac _ hops=>⟨.bool (decide (a=b)),run E ac hops _ ?_,by rw [RepF]⟩⟩
   simp only [Op.stringOp,list_eq_iff]
   rfl
  ·refine ⟨_,h,fun B E ac _ hops=>⟨.bool (decide (¬a=b)),run E ac hops _ ?_,by rw [RepF]⟩⟩
   simp only [Op.stringOp,list_eq_iff]
   simp
  ·cases h
 ·split at h
  ·rename_i x y _ _ te a b hte ha hb
   obtain ⟨d,hd,hd2⟩:=(hT.ty t _ hte).desc
   have hd2:d=.bool:=hd2
   subst hd2
   have run:∀(E:Env T) (ac:Act),OpsOk E o s ac→∀cv,(Go.binOp op t (.bool a) (.bool b)).run P E.w=.ok cv E.w→(execOp ac.eval o).run P E.w=.ok (.value cv) E.w:=by
    intro E ac hops cv hcv
    have e1:=boolV_rep ha (hops X (by simp [Op.operands,ho]))
    have e2:=boolV_rep hb (hops Y (by simp [Op.operands,ho]))
    simp only [execOp,ho,e1,e2]
    have hguard:(eqGuard op t X Y (.bool a) (.bool b)).run P E.w=.ok () E.w:=by
     unfold eqGuard
     cases op <;> simp
    simp [hguard,hcv]
   split at h
   ·refine ⟨_,h,fun B E ac _ hops=>⟨.bool (decide (a=b)),run E ac hops _ ?_,by rw [RepF]⟩⟩
    show Sem.run P (do pure (Value.bool (←Op.equal t (.bool a) (.bool b)))) E.w=_
    rw [Sem.run_bind,run_eql_bool E.w t a b hd]
    rfl
   ·refine ⟨_,h,fun B E ac _ hops=>⟨.bool (decide (¬a=b)),run E ac hops _ ?_,by rw [RepF]⟩⟩
    show Sem.run P (do pure (Value.bool (!(←Op.equal t (.bool a) (.bool b))))) E.w=_
    rw [Sem.run_bind,run_eql_bool E.w t a b hd]
    cases a <;> cases b <;> rfl
   ·cases h
  ·cases h
theorem q_slice {P:Program} (hT:TblOk P T) {o:Oper} {s:St T} {t:TypeId} {x:Operand} {lo hi:Option Operand} (ho:o.op=.slice t x lo hi none) {K:FV T→Option R} {r:R}
  (h:sliceK T (T.ety t) (ev s x) (lo.map (ev s)) (hi.map (ev s)) K=some r):∃v,K v=some r∧Q0 P o s v:=by
 have hlo:∀(E:Env T) (a:Act),OpsOk E o s a→∀y,lo=some y→RepF E (ev s y) (a.eval y):=fun E a hops y hy=>hops y (by simp [Op.operands,ho,hy])
 have hhi:∀(E:Env T) (a:Act),OpsOk E o s a→∀y,hi=some y→RepF E (ev s y) (a.eval y):=fun E a hops y hy=>hops y (by simp [Op.operands,ho,hy])
 have fin:∀(E:Env T) (a:Act) (cv:Value),(Instr.sliceAt t (a.eval x) (lo.map a.eval) (hi.map a.eval) none).run P E.w=.ok cv E.w→(execOp a.eval o).run P E.w=.ok (.value cv) E.w:=by
  intro E a cv hr
  simp only [execOp,ho,Option.map_none]
  rw [Sem.run_bind,hr]
  rfl
 have lst:∀{e' e:Ty} {xs:List (Den T.ST e)} (ht:T.ety t=some (.lst e')) (hz:szE T e'=szE T e) (hx:ev s x=.d (.lst e xs)) (E:Env T) (a:Act),OpsOk E o s a→∀l h:Nat,l≤h→h≤xs.length→∀(lo' hi':Option Value),
   (∀c,xs.length≤c→(Instr.sliceBounds true xs.length c lo' hi' none).run P E.w=.ok (l,h,c) E.w)→lo.map a.eval=lo'→hi.map a.eval=hi'→∃cv,(execOp a.eval o).run P E.w=.ok (.value cv) E.w∧RepF E (.d (.lst e ((xs.take h).drop l))) cv:=by
  intro e' e xs ht hz hx E a hops l h hlh hhl lo' hi' hb e1 e2
  obtain ⟨t',hu,ht',inf,hinf,hsz⟩:=elem_size hT ht
  have ex:=hops x (by simp [Op.operands,ho])
  rw [hx,RepF] at ex
  obtain ⟨A,c,hA,hc,hroom,hne⟩:=rep_lst ex
  refine ⟨.slice (if c=l then A else A.map (·.add (l*szE T e))) (h - l) (c - l),fin E a _ ?_,?_⟩
  ·rw [hA,e1,e2]
   simp only [Instr.sliceAt]
   rw [Sem.run_bind,run_underlying hu]
   simp only [Result.andThen]
   simp only [Instr.slice]
   rw [Sem.run_bind,run_underlying hu]
   simp only [Result.andThen]
   rw [Sem.run_bind,hb c hc]
   simp [sizeOf,typeInfo,hinf,hsz,hz]
  ·rw [RepF]
   have hlen:((xs.take h).drop l).length=h - l:=by rw [List.length_drop,List.length_take];omega
   rw [←hlen]
   refine rep_lst_mk (by rw [hlen];omega) (fun hst hcl=>?_) fun hn=>?_
   ·obtain ⟨b,p,rfl,hS,hpl,hk⟩:=hroom hst (by omega)
    rw [if_neg (by omega)]
    refine ⟨b,p+l*szE T e,by simp only [Option.map_some];rw [add0],hS,hpl,fun i hi j d hd=>?_⟩
    obtain ⟨cv,h3,h4⟩:=hk (l+i) (by omega) j d hd
    refine ⟨cv,?_,h4⟩
    rw [←h3]
    show E.w.cell? ⟨b,p+l*szE T e+(i*szE T e+j),none⟩=E.w.cell? ⟨b,p+((l+i)*szE T e+j),none⟩
    rw [Nat.add_mul]
    simp only [Nat.add_assoc]
   have hlt:l<h:=by
    have:=List.length_pos_iff.2 hn
    omega
   obtain ⟨b,p,rfl,hS,he,hlw⟩:=hne (by intro h';rw [h'] at hhl;simp at hhl;omega)
   rw [if_neg (by omega)]
   refine ⟨b,p+l*szE T e,by simp only [Option.map_some];rw [add0],hS,fun i y hi j d hd=>?_,fun i y hi j d hd cv hcv=>?_⟩
   rotate_left
   ·rw [List.getElem?_drop] at hi
    have hi2:l+i<h:=by
     rcases Nat.lt_or_ge (l+i) h with h' | h'
     ·exact h'
     ·rw [List.getElem?_take_eq_none h'] at hi;cases hi
    rw [List.getElem?_take_of_lt hi2] at hi
    refine hlw _ y hi j d hd cv ?_
    rw [←hcv]
    show E.w.cell? ⟨b,p+((l+i)*szE T e+j),none⟩=E.w.cell? ⟨b,p+l*szE T e+(i*szE T e+j),none⟩
    rw [Nat.add_mul]
    simp only [Nat.add_assoc]
   rw [List.getElem?_drop] at hi
   have hi2:l+i<h:=by
    rcases Nat.lt_or_ge (l+i) h with h' | h'
    ·exact h'
    ·rw [List.getElem?_take_eq_none h'] at hi;cases hi
   rw [List.getElem?_take_of_lt hi2] at hi
   obtain ⟨cv,h3,h4⟩:=he _ y hi j d hd
   refine ⟨cv,?_,h4⟩
   rw [←h3]
   show E.w.cell? ⟨b,p+l*szE T e+(i*szE T e+j),none⟩=E.w.cell? ⟨b,p+((l+i)*szE T e+j),none⟩
   rw [Nat.add_mul]
   simp only [Nat.add_assoc]
 have str:∀{b:ByteArray} (ht:T.ety t=some .str) (hx:ev s x=.d (.str b)) (E:Env T) (a:Act),OpsOk E o s a→∀l h:Nat,∀(lo' hi':Option Value),
   ((Instr.sliceBounds false b.size b.size lo' hi' none).run P E.w=.ok (l,h,b.size) E.w)→lo.map a.eval=lo'→hi.map a.eval=hi'→∃cv,(execOp a.eval o).run P E.w=.ok (.value cv) E.w∧RepF E (.d (.str (b.extract l h))) cv:=by
  intro b ht hx E a hops l h lo' hi' hb e1 e2
  obtain ⟨dd,hu,rfl⟩:=(hT.ty _ _ ht).desc
  have ex:=hops x (by simp [Op.operands,ho])
  rw [hx,RepF] at ex
  refine ⟨.string (b.extract l h),fin E a _ ?_,by rw [RepF];exact rep_str.2 rfl⟩
  rw [rep_str.1 ex,e1,e2]
  simp only [Instr.sliceAt]
  rw [Sem.run_bind,run_underlying hu]
  simp only [Result.andThen]
  simp only [Instr.slice]
  rw [Sem.run_bind,run_underlying hu]
  simp [hb]
 have sb:∀(w:World) (k:IntKind) (i:Int) (y:Nat) (code:BoundsCode),0≤i→i≤(y:Int)→(Instr.sliceBound (.int k i) y code).run P w=.ok i.toNat w:=by
  intro w k i y code h0 h1
  simp [Instr.sliceBound,asIntOf,h0,h1]
 have opv:∀(E:Env T) (a:Act),OpsOk E o s a→∀{y:Option Operand} (_:∀z,y=some z→RepF E (ev s z) (a.eval z)) {k:IntKind} {n:Int},y.map (ev s)=some (.d (.int k n))→y.map a.eval=some (.int k n):=by
  intro E a _ y hy k n h
  cases y with
  | none=>cases h
  | some z=>
   have h1:=hy z rfl
   have h2:ev s z=.d (.int k n):=Option.some.inj h
   rw [h2,RepF] at h1
   simp [rep_int.1 h1]
 have opn:∀(a:Act) {y:Option Operand},y.map (ev s)=none→y.map a.eval=none:=by
  intro a y h
  cases y with
  | none=>rfl
  | some z=>cases h
 unfold sliceK at h
 split at h
 ·rename_i e xs hx
  split at h
  ·cases h
  ·rename_i hzz
   obtain ⟨e',ht,hz⟩:∃e',T.ety t=some (.lst e')∧szE T e'=szE T e:=by
    split at hzz
    ·rename_i e' he'
     exact ⟨e',he',beq_true hzz⟩
    ·cases hzz
   split at h
   ·rename_i hl hh
    refine ⟨_,h,fun B E a _ hops=>?_⟩
    have:=lst ht hz hx E a hops 0 xs.length (Nat.zero_le _) (Nat.le_refl _) none none (fun c hc=>by simp [Instr.sliceBounds]) (opn a hl) (opn a hh)
    simpa using this
   ·rename_i k b hl hh
    split at h
    ·rename_i h0
     split at h
     ·rename_i h1
      refine ⟨_,h,fun B E a _ hops=>?_⟩
      have:=lst ht hz hx E a hops 0 b.toNat (Nat.zero_le _) (by omega) none _ (fun c hc=>by simp [Instr.sliceBounds,sb E.w k b c _ h0 (by omega)]) (opn a hl) (opv E a hops (hhi E a hops) hh)
      simpa using this
     ·cases h
    ·cases h
   ·rename_i k c hl hh
    split at h
    ·rename_i h0
     split at h
     ·rename_i h1
      refine ⟨_,h,fun B E a _ hops=>?_⟩
      have:=lst ht hz hx E a hops c.toNat xs.length (by omega) (Nat.le_refl _) _ none (fun c' hc=>by simp [Instr.sliceBounds,sb E.w k c xs.length _ h0 h1]) (opv E a hops (hlo E a hops) hl) (opn a hh)
      simpa using this
     ·cases h
    ·cases h
   ·rename_i k c k2 b hl hh
    split at h
    ·rename_i h0
     split at h
     ·rename_i h1
      split at h
      ·rename_i h2
       split at h
       ·rename_i h3
        refine ⟨_,h,fun B E a _ hops=>?_⟩
        exact lst ht hz hx E a hops c.toNat b.toNat (by omega) (by omega) _ _ (fun c' hc=>by simp [Instr.sliceBounds,sb E.w k2 b c' _ h0 (by omega),sb E.w k c b.toNat _ h2 (by omega)]) (opv E a hops (hlo E a hops) hl) (opv E a hops (hhi E a hops) hh)
       ·cases h
      ·cases h
     ·cases h
    ·cases h
   ·cases h
 ·rename_i b hx
  split at h
  ·cases h
  ·rename_i hzz
   have ht:T.ety t=some .str:=by
    split at hzz
    ·assumption
    ·cases hzz
   split at h
   ·rename_i k c hl hh
    split at h
    ·rename_i h0
     split at h
     ·rename_i h1
      refine ⟨_,h,fun B E a _ hops=>?_⟩
      exact str ht hx E a hops 0 c.toNat none _ (by simp [Instr.sliceBounds,sb E.w k c b.size _ h0 h1]) (opn a hl) (opv E a hops (hhi E a hops) hh)
     ·cases h
    ·cases h
   ·rename_i k c hl hh
    split at h
    ·rename_i h0
     split at h
     ·rename_i h1
      refine ⟨_,h,fun B E a _ hops=>?_⟩
      exact str ht hx E a hops c.toNat b.size _ none (by simp [Instr.sliceBounds,sb E.w k c b.size _ h0 h1]) (opv E a hops (hlo E a hops) hl) (opn a hh)
     ·cases h
    ·cases h
   ·rename_i k c k2 d hl hh
    split at h
    ·rename_i h0
     split at h
     ·rename_i h1
      split at h
      ·rename_i h2
       split at h
       ·rename_i h3
        refine ⟨_,h,fun B E a _ hops=>?_⟩
        exact str ht hx E a hops c.toNat d.toNat _ _ (by simp [Instr.sliceBounds,sb E.w k2 d b.size _ h0 h1,sb E.w k c d.toNat _ h2 (by omega)]) (opv E a hops (hlo E a hops) hl) (opv E a hops (hhi E a hops) hh)
       ·cases h
      ·cases h
     ·cases h
    ·cases h
   ·cases h
 ·cases h
theorem eqFields_flat {P:Program} {E:Env T} {xs ys:Array Value} (w:World) (d:Nat):∀(es:List Ty) (cs cs':List (FV T)) (fs:List Field) (i:Nat) (r:Bool),eqD es cs cs'=some r→fs.length=es.length→
  (∀ j f e, fs[j]? = some f → es[j]? = some e → f.name ≠ "_" ∧ f.offset = i + j ∧ ∃ d, P.underlying f.type = some d ∧ eqDesc e d) →
  (∀(j:Nat) c,cs[j]?=some c→∃v,xs[i+j]?=some v∧RepF E c v)→(∀(j:Nat) c,cs'[j]?=some c→∃v,ys[i+j]?=some v∧RepF E c v)→(Op.eqFields (d+1) xs ys fs).run P w=.ok r w:=by
 intro es
 induction es with
 | nil=>
  intro cs cs' fs i r h hl _ _ _
  have:fs=[]:=List.length_eq_zero_iff.1 hl
  subst this
  cases cs <;> cases cs' <;> first | (cases h;done) | (simp [eqD] at h;done) | skip
  obtain rfl:=Option.some.inj h
  rfl
 | cons e es ih=>
  intro cs cs' fs i r h hl hf hx hy
  cases fs with
  | nil=>simp at hl
  | cons f fs=>
   obtain ⟨hn,hoff,dd,hu,hd⟩:=hf 0 f e rfl rfl
   have key:∀(c c':FV T) (l l':List (FV T)) (b r':Bool),cs=c::l→cs'=c'::l'→eqD es l l'=some r'→(∀v v',RepF E c v→RepF E c' v'→oneC v=true∧(Op.equalIn (d+1) f.type v v').run P w=.ok b w)→(∃e0,e=e0∧(match dd with | .struct _ | .array _ _=>true | _=>false)=false)→(Op.eqFields (d+1) xs ys (f::fs)).run P w=.ok (b&&r') w:=by
    rintro c c' l l' b r' rfl rfl hr hb ⟨_,_,hag⟩
    obtain ⟨v,v1,v2⟩:=hx 0 c rfl
    obtain ⟨u,u1,u2⟩:=hy 0 c' rfl
    have hpart:∀(zs:Array Value) z,zs[i+0]?=some z→(part f.type zs f.offset).run P w=.ok z w:=by
     intro zs z hz
     unfold part
     rw [hoff]
     have:(isAgg f.type).run P w=.ok false w:=by
      unfold isAgg
      rw [Sem.run_bind,run_underlying hu]
      simp only [Result.andThen]
      cases dd <;> first | rfl | cases hag
     have hz':zs[i]?=some z:=hz
     rw [Sem.run_bind,this]
     simp [hz']
    have hrest:=ih l l' fs (i+1) r' hr (by simpa using hl) (fun j f' e' h1 h2=>by
     have:=hf (j+1) f' e' (by simpa using h1) (by simpa using h2)
     exact ⟨this.1,by rw [this.2.1];omega,this.2.2⟩) (fun j c hc=>by
     have:=hx (j+1) c (by simpa using hc)
     rw [show i+1+j=i+(j+1) from by omega];exact this) (fun j c hc=>by
     have:=hy (j+1) c (by simpa using hc)
     rw [show i+1+j=i+(j+1) from by omega];exact this)
    unfold Op.eqFields
    rw [if_pos hn,Sem.run_bind,hpart xs v v1]
    simp only [Result.andThen]
    rw [Sem.run_bind,hpart ys u u1]
    simp only [Result.andThen]
    rw [Sem.run_bind,(hb v u v2 u2).2]
    simp only [Result.andThen]
    cases b with
    | true=>simp [hrest]
    | false=>simp
   unfold eqD at h
   split at h
   ·exact absurd (by assumption:e::es=[]) (by simp)
   ·rename_i k0 es' k a l k' b l' h1
    obtain ⟨rfl,rfl⟩:=List.cons.inj h1
    split at h
    ·rename_i r' hk hr
     obtain rfl:=Option.some.inj h
     have hk:=of_decide_eq_true hk
     subst hk
     obtain ⟨kk,hd⟩:=hd
     subst hd
     refine key _ _ _ _ _ _ rfl rfl hr (fun v v' hv hv'=>?_) ⟨_,rfl,rfl⟩
     rw [RepF] at hv hv'
     rw [rep_int.1 hv,rep_int.1 hv']
     refine ⟨rfl,?_⟩
     rw [run_equalIn_int w d f.type k kk a b hu]
     congr 1
    ·cases h
   ·rename_i es' a l b l' h1
    obtain ⟨rfl,rfl⟩:=List.cons.inj h1
    split at h
    ·rename_i r' hr
     obtain rfl:=Option.some.inj h
     have hd:dd=.string:=hd
     subst hd
     refine key _ _ _ _ _ _ rfl rfl hr (fun v v' hv hv'=>?_) ⟨_,rfl,rfl⟩
     rw [RepF] at hv hv'
     rw [rep_str.1 hv,rep_str.1 hv']
     refine ⟨rfl,?_⟩
     rw [run_equalIn_string w d f.type a b hu,list_eq_iff]
    ·cases h
   ·rename_i es' x l y l' h1
    obtain ⟨rfl,rfl⟩:=List.cons.inj h1
    split at h
    ·rename_i a b r' ha hb hr
     obtain rfl:=Option.some.inj h
     have hd:dd=.bool:=hd
     subst hd
     refine key _ _ _ _ _ _ rfl rfl hr (fun v v' hv hv'=>?_) ⟨_,rfl,rfl⟩
     rw [boolV_rep ha hv,boolV_rep hb hv']
     refine ⟨rfl,?_⟩
     rw [run_equalIn_bool' w d f.type a b hu]
     congr 1
    ·cases h
   ·cases h
theorem q_eqs {P:Program} (hT:TblOk P T) {o:Oper} {s:St T} {op:BinOp} {t t2:TypeId} {X Y:Operand} (ho:o.op=.binOp op t X Y t2) {a b:List (FV T)} (hx:ev s X=.agg a) (hy:ev s Y=.agg b) {K:FV T→Option R} {r:R} (h:eqK (T.eqs t) op a b K=some r):∃v,K v=some r∧Q0 P o s v:=by
 unfold eqK at h
 split at h
 ·rename_i es hes
  obtain ⟨fs,hu,hst,hgd,hsz,hfs⟩:=hT.eqs t es hes
  split at h
  ·rename_i r0 hr0
   have run:∀(E:Env T) (ac:Act),OpsOk E o s ac→∃xs ys,ac.eval X=.agg xs∧ac.eval Y=.agg ys∧(Op.equalIn 10000 t (.agg xs) (.agg ys)).run P E.w=.ok r0 E.w:=by
    intro E ac hops
    have e1:=hops X (by simp [Op.operands,ho])
    have e2:=hops Y (by simp [Op.operands,ho])
    rw [hx,RepF] at e1
    rw [hy,RepF] at e2
    obtain ⟨xs,h1,h2⟩:=e1
    obtain ⟨ys,h3,h4⟩:=e2
    have hff:P.fieldsOf t=fs:=by unfold Program.fieldsOf;rw [hu]
    refine ⟨xs.toArray,ys.toArray,h1,h3,?_⟩
    rw [run_equalIn_struct E.w 9999 t _ _ (by rw [hff];exact hu) hst,hff]
    refine eqFields_flat (P:=P) (E:=E) E.w 9998 es a b fs.toList 0 r0 hr0 (by simpa using hsz) (fun j f e hj he=>?_) (fun j c hc=>?_) (fun j c hc=>?_)
    ·have:=hfs j f e (by rw [←Array.getElem?_toList];exact hj) he
     exact ⟨this.1,by rw [this.2.1];omega,this.2.2⟩
    ·obtain ⟨v,k1,k2⟩:=h2.get j c hc
     exact ⟨v,by rw [List.getElem?_toArray,Nat.zero_add];exact k1,k2⟩
    ·obtain ⟨v,k1,k2⟩:=h4.get j c hc
     exact ⟨v,by rw [List.getElem?_toArray,Nat.zero_add];exact k1,k2⟩
   split at h
   ·refine ⟨_,h,fun B E ac _ hops=>⟨.bool r0,?_,by rw [RepF];exact rep_bool.2 rfl⟩⟩
    obtain ⟨xs,ys,h1,h2,h3⟩:=run E ac hops
    have hg:=run_eqGuard_agg (P:=P) E.w .eql t X Y xs ys hgd
    have hb:(Go.binOp .eql t (.agg xs) (.agg ys)).run P E.w=.ok (.bool r0) E.w:=by rw [run_eql_struct,h3];rfl
    simp only [execOp,ho,h1,h2]
    simp [hg,hb]
   ·refine ⟨_,h,fun B E ac _ hops=>⟨.bool (!r0),?_,by rw [RepF];exact rep_bool.2 rfl⟩⟩
    obtain ⟨xs,ys,h1,h2,h3⟩:=run E ac hops
    have hg:=run_eqGuard_agg (P:=P) E.w .neq t X Y xs ys hgd
    have hb:(Go.binOp .neq t (.agg xs) (.agg ys)).run P E.w=.ok (.bool (!r0)) E.w:=by rw [run_neq_struct,h3];rfl
    simp only [execOp,ho,h1,h2]
    simp [hg,hb]
   ·cases h
  ·cases h
 ·cases h
theorem q_convert {P:Program} (hT:TblOk P T) {o:Oper} {s:St T} {src dst:TypeId} {X:Operand} {k0 k k2:IntKind} {n:Int} (ho:o.op=.convert src dst X) (h1:T.ety src=some (.int k0)) (h2:T.ety dst=some (.int k)) (hx:ev s X=.d (.int k2 n)):Q0 P o s (.d (.int k (wr k n))):=by
 refine fun B E ac _ hops=>⟨.int k (k.wrap n),?_,by rw [RepF,wr_eq];exact rep_int.2 rfl⟩
 have e1:=hops X (by simp [Op.operands,ho])
 rw [hx,RepF] at e1
 obtain ⟨d1,u1,e1'⟩:=(hT.ty _ _ h1).desc
 obtain ⟨d2,u2,e2'⟩:=(hT.ty _ _ h2).desc
 have e1':d1=.int k0:=e1'
 have e2':d2=.int k:=e2'
 subst e1'
 subst e2'
 simp only [execOp,ho,rep_int.1 e1]
 unfold Go.convert
 simp [run_underlying u1,run_underlying u2,Conv.intToInt]
theorem q_indexArr {P:Program} (hT:TblOk P T) {o:Oper} {s:St T} {t:TypeId} {x y:Operand} {k:IntKind} {m o' n':Nat} (ho:o.op=.indexAddr t x y) (hy:ev s y=.d (.int k (.ofNat m))) (hf:T.plc t m=some (o',n')) {cs:List (FV T)×Nat} (h1:atF s.h (ev s x)=some cs)
  (ha':T.arr t=true) {v:FV T} (hv:match ev s x with | .ptr id g off=>v=.ptr id g (off+o') | .elp e xs i off=>v=.elp e xs i (off+o') | .oel id g i off=>v=.oel id g i (off+o') | _=>False):QOk P o s v none:=by
 refine QOk.val fun B E a I hs hops=>?_
 have hx:=hops x (by simp [Op.operands,ho])
 have hyv:=hops y (by simp [Op.operands,ho])
 rw [hy,RepF] at hyv
 obtain ⟨b,p,ha,_⟩:=at_ok (cs:=cs.1) (off:=cs.2) I hs hx h1
 rcases hT.plc t m o' n' hf with ⟨fs,_,_,hu,_⟩ | ⟨kk,et,inf,hu,hi,hz,ho',hlt⟩
 ·obtain ⟨_,_,hu'⟩:=hT.arr t ha'
  rw [hu'] at hu;cases hu
 refine ⟨.pointer (some ⟨b,p+o',none⟩),?_,?_⟩
 ·simp only [execOp,ho,ha,rep_int.1 hyv]
  have hc:(0:Int)≤Int.ofNat m∧(Int.ofNat m:Int)<(kk:Int):=⟨Int.natCast_nonneg m,Int.ofNat_lt.2 hlt⟩
  have hrun:(Instr.indexAt t (.pointer (some ⟨b,p,none⟩)) (.int k (.ofNat m))).run P E.w=.ok (.pointer (some ⟨b,p+o',none⟩)) E.w:=by
   unfold Instr.indexAt
   simp only [asIntOf]
   simp [run_underlying hu,Instr.sureAddr,sizeOf,typeInfo,hi,hlt,add0,ho',hz]
  rw [Sem.run_bind,hrun]
  rfl
 ·rw [ha] at hx
  cases hev:ev s x with
  | ptr id g off=>
   rw [hev] at hv hx
   simp only at hv
   subst hv
   rw [RepF] at hx⊢
   refine ⟨⟨hx.1.1,rfl⟩,fun hg=>?_⟩
   obtain ⟨cs',hc,hp⟩:=hx.2 hg
   injection hp with hp;injection hp with hp;injection hp with h2 h3 h4
   exact ⟨cs',hc,by rw [←h2,←h3]⟩
  | elp e xs i off=>
   rw [hev] at hv hx
   simp only at hv
   subst hv
   rw [RepF] at hx⊢
   obtain ⟨b',o2,hp,r⟩:=hx
   injection hp with hp;injection hp with hp;injection hp with h2 h3 h4
   exact ⟨b',o2,by rw [h2,h3,Nat.add_assoc],r⟩
  | oel id g i off=>
   rw [hev] at hv hx
   simp only at hv
   subst hv
   rw [RepF] at hx⊢
   refine ⟨⟨hx.1.1,rfl⟩,fun hg=>?_⟩
   obtain ⟨e,xs,hc,i0,i1,hp⟩:=hx.2 hg
   injection hp with hp;injection hp with hp;injection hp with h2 h3 h4
   exact ⟨e,xs,hc,i0,i1,by rw [←h2,h3,Nat.add_assoc]⟩
  | _=>rw [hev] at hv;exact hv.elim
theorem q_slice0 {P:Program} (hT:TblOk P T) {o:Oper} {s:St T} {t:TypeId} {x:Operand} {hi:Option Operand} {e:Ty} {k:IntKind} {b:Int} (ho:o.op=.slice t x none hi none) (hx:ev s x=.nil) (ht:T.ety t=some (.lst e)) (hh:hi.map (ev s)=some (.d (.int k b))) (h0:b=0):Q0 P o s .nil:=by
 refine fun B E a _ hops=>?_
 obtain ⟨z,rfl,hz⟩:∃z,hi=some z∧ev s z=.d (.int k b):=by
  cases hi with
  | none=>cases hh
  | some z=>exact ⟨z,rfl,Option.some.inj hh⟩
 have ex:=hops x (by simp [Op.operands,ho])
 have ez:=hops z (by simp [Op.operands,ho])
 rw [hz,RepF] at ez
 have ez:=rep_int.1 ez
 rw [hx,RepF] at ex
 obtain ⟨A,hA⟩:=ex
 obtain ⟨t',hu,ht',inf,hinf,hsz⟩:=elem_size hT ht
 refine ⟨.slice A 0 0,?_,by rw [RepF];exact ⟨A,rfl⟩⟩
 subst h0
 simp only [execOp,ho,Option.map_none,Option.map_some]
 rw [hA,ez]
 simp only [Instr.sliceAt]
 rw [Sem.run_bind,Sem.run_bind,run_underlying hu]
 simp only [Result.andThen]
 simp only [Instr.slice]
 rw [Sem.run_bind,run_underlying hu]
 simp only [Result.andThen]
 have hb3:(Instr.sliceBounds true 0 0 none (some (.int k 0)) none).run P E.w=.ok (0,0,0) E.w:=by
  simp [Instr.sliceBounds,Instr.sliceBound,asIntOf]
 rw [Sem.run_bind,hb3]
 simp [sizeOf,typeInfo,hinf]
end
end Go.Proofs.YtggmgmkhohmfiaaGreat.PE
namespace Go.Proofs.YtggmgmkhohmfiaaGreat.PE
noncomputable section
set_option linter.unusedVariables false
open Go Go.RowKit
variable {T:Tbl} {R:Type}
theorem pick_val {E:Env T} {v:FV T} {cv:Value} (hv:RepF E v cv):(v=.lit true→cv=.bool true)∧(v=.lit false→cv=.bool false)∧(∀p i,v=.prp p i→cv=.bool (@decide p i))∧(∀b,v=.d (.bool b)→cv=.bool b):=by
 refine ⟨?_,?_,?_,?_⟩
 ·rintro rfl;rw [RepF] at hv;exact hv
 ·rintro rfl;rw [RepF] at hv;exact hv
 ·rintro p i rfl;rw [RepF] at hv;exact hv
 ·rintro b rfl;rw [RepF] at hv;exact rep_bool.1 hv
theorem aop_ok {P:Program} (hT:TblOk P T) {cal:Cal T R} (hcal:CalOk P T cal) {o:Oper} {q:Bool} {s:St T} {K:FV T→(Nat→Slot T)→Option R} {r:R} (h:aop T cal o q s K=some r):
  ∃v h',K v h'=some r∧Done P o q s v h':=by
 unfold aop at h
 split at h
 ·rename_i x ho;exact ⟨_,_,h,Done.of0 (q_move (.inl ho))⟩
 ·rename_i x ho;exact ⟨_,_,h,Done.of0 (q_move (.inr ho))⟩
 ·rename_i c a b ho
  split at h
  ·rename_i hc
   exact ⟨_,_,h,Done.of0 (q_pick ho true (fun E v hv=>(pick_val hv).1 hc))⟩
  ·rename_i hc
   exact ⟨_,_,h,Done.of0 (q_pick ho false (fun E v hv=>(pick_val hv).2.1 hc))⟩
  ·rename_i p i hc
   by_cases hp:p
   ·rw [if_pos hp] at h
    exact ⟨_,_,h,Done.of0 (q_pick ho true (fun E v hv=>by rw [(pick_val hv).2.2.1 p i hc];simp [hp]))⟩
   ·rw [if_neg hp] at h
    exact ⟨_,_,h,Done.of0 (q_pick ho false (fun E v hv=>by rw [(pick_val hv).2.2.1 p i hc];simp [hp]))⟩
  ·rename_i b' hc
   by_cases hp:b'=true
   ·rw [if_pos hp] at h
    exact ⟨_,_,h,Done.of0 (q_pick ho true (fun E v hv=>by rw [(pick_val hv).2.2.2 b' hc,hp]))⟩
   ·rw [if_neg hp] at h
    exact ⟨_,_,h,Done.of0 (q_pick ho false (fun E v hv=>by rw [(pick_val hv).2.2.2 b' hc];simpa using hp))⟩
  ·cases h
 ·rename_i t ho
  split at h
  ·rename_i d e hd he
   split at h
   ·rename_i hn hdb
    exact ⟨_,_,h,Done.ofD hd hn (q_alloc hT ho he hn (Nat.le_of_ble_eq_true hdb))⟩
   ·cases h
  ·cases h
 ·rename_i t x ho
  split at h
  ·rename_i d cs hd hcs
   split at h
   ·rename_i hn hdb
    exact ⟨_,_,h,Done.ofD hd hn (q_box ho hn (Nat.le_of_ble_eq_true hdb) hcs)⟩
   ·cases h
  ·cases h
 ·rename_i t parts ho
  split at h
  ·rename_i e x0 he h0
   split at h
   ·rename_i cs hcs
    exact ⟨_,_,h,Done.of0 (q_build hT ho he h0 hcs)⟩
   ·cases h
  ·cases h
 ·rename_i t n parts ho
  split at h
  ·rename_i d e hd0 he
   obtain ⟨hd,hdr⟩:=guardD_some hd0
   split at h
   ·rename_i xs hn hb hord hq hds
    rw [Bool.and_eq_true] at hb
    have hlen:=beq_true hb.1
    have hsm:=Nat.le_of_ble_eq_true hb.2
    refine ⟨_,_,h,?_,fun hqt=>?_⟩
    ·intro B E a I hE hops next Q k
     obtain ⟨E1,w1,H1,le1,I1,k1⟩:=frzFs_ok (parts.toList.map fun p=>ev s p.2) E I
     have hdn:(E.H d).c=.none:=by rw [hE];exact isNone_eq hn
     have hcn:(E1.H d).g=(E.H d).g∧(E1.H d).c=.none:=by
      have key:∀(v:FV T) (H:Nat→Slot T),(H d).c=.none→(frz1 H v) d=H d:=by
       intro v H hH
       by_cases ho:isOwn v=true
       ·cases v with
        | own id g=>
         by_cases hrow:∃e xs,H id=⟨g,.row e xs⟩
         ·obtain ⟨e,xs,hr⟩:=hrow
          rw [frz1_row hr]
          refine upd_other _ _ (fun e'=>?_)
          subst e'
          rw [hr] at hH
          cases hH
         ·rw [frz1_id hrow]
        | _=>cases ho
       ·cases v <;> first | rfl | exact absurd rfl ho
      have keyL:∀(cs:List (FV T)) (H:Nat→Slot T),(H d).c=.none→(frzL H cs) d=H d:=by
       intro cs
       induction cs with
       | nil=>intro H _;rfl
       | cons c cs ih=>intro H hH;rw [frzL,ih _ (by rw [key c H hH];exact hH),key c H hH]
      have keyF:∀(vs:List (FV T)) (H:Nat→Slot T),(H d).c=.none→(frzFs H vs) d=H d:=by
       intro vs
       induction vs with
       | nil=>intro H _;rfl
       | cons v vs ih=>
        intro H hH
        have h1:(frzV H v) d=H d:=by
         by_cases hv:∃cs,v=.agg cs
         ·obtain ⟨cs,rfl⟩:=hv;exact keyL cs H hH
         ·rw [frzV_one _ _ hv];exact key v H hH
        rw [frzFs,ih _ (by rw [h1];exact hH),h1]
      rw [H1,keyF _ _ hdn]
      exact ⟨rfl,hdn⟩
     obtain ⟨E',cv,b1,b2,b3,b4,b5⟩:=build_core hT hdr ho he hlen hsm hord (E:=E) (E1:=E1) (by rw [hE];exact hds) hops w1 I1 hcn.2 (fun v c cv y hv hc hr hdy=>k1 E1 v c cv y hv hc (EnvLe.refl E1) I1 hr hdy)
     refine wp_value b5 (k E' cv (le1.trans b1) b2 ?_ ?_)
     ·rw [hcn.1,hE] at b3;exact b3
     ·rw [b4,hcn.1,H1,hE]
    ·subst hqt
     have hno:hasOwn (parts.toList.map fun p=>ev s p.2)=false:=by simpa using hq
     refine ⟨some (d,.row e xs),?_,fun d' c' h'=>by cases h';exact ⟨hd,isNone_eq hn⟩,?_⟩
     ·rw [frzFs_none _ _ hno];rfl
     ·intro B E a I hs hδ hops next Q k
      have hg:=sub_none hs (hδ d _ rfl)
      have hvals:∀(v:FV T),v∈(parts.toList.map fun p=>ev s p.2)→∀cv,RepF E v cv→denF e E.H v=denF e s.h v:=by
       intro v hv cv hrep
       have h1:∀w:FV T,isOwn w=false→dyn1 E.H w=dyn1 s.h w:=by
        intro w hw
        cases w <;> first | rfl | cases hw
       have hcl:cellsF E.H v=cellsF s.h v:=by
        have hmem:∀l:List (FV T),hasOwn l=false→∀v∈l,isOwn v=false∧∀cs,v=.agg cs→∀c∈cs,isOwn c=false:=by
         intro l
         induction l with
         | nil=>intro _ v hv;cases hv
         | cons a l ih=>
          intro hl v hv
          have hl2:isOwn a=false∧(∀cs,a=.agg cs→∀c∈cs,isOwn c=false)∧hasOwn l=false:=by
           cases a with
           | own id g=>simp [hasOwn] at hl
           | agg cs=>
            simp only [hasOwn] at hl
            split at hl
            ·cases hl
            ·rename_i hany
             refine ⟨rfl,fun cs' he c hc=>?_,hl⟩
             injection he with he
             subst he
             rw [List.any_eq_false] at hany
             have:=hany c hc
             cases c <;> first | rfl | simp at this
           | _=>exact ⟨rfl,nofun,hl⟩
          rcases List.mem_cons.1 hv with rfl | hv
          ·exact ⟨hl2.1,hl2.2.1⟩
          ·exact ih hl2.2.2 v hv
        obtain ⟨m1,m2⟩:=hmem _ hno v hv
        by_cases hagg:∃cs,v=.agg cs
        ·obtain ⟨cs,rfl⟩:=hagg
         show dynL E.H cs=dynL s.h cs
         have:∀l:List (FV T),(∀c∈l,isOwn c=false)→dynL E.H l=dynL s.h l:=by
          intro l
          induction l with
          | nil=>intro _;rfl
          | cons c l ih=>intro hl;rw [dynL,dynL,h1 c (hl c List.mem_cons_self),ih (fun c hc=>hl c (List.mem_cons_of_mem _ hc))]
         exact this cs (m2 cs rfl)
        ·cases v <;> first | exact absurd ⟨_,rfl⟩ hagg | (unfold cellsF;simp only [h1 _ m1])
       unfold denF
       rw [hcl]
      have hds':dens e E.H (parts.toList.map fun p=>ev s p.2)=some xs:=by
       have:∀l:List (FV T),(∀v∈l,denF e E.H v=denF e s.h v)→dens e E.H l=dens e s.h l:=by
        intro l
        induction l with
        | nil=>intro _;rfl
        | cons v l ih=>intro hl;rw [dens,dens,hl v List.mem_cons_self,ih (fun v hv=>hl v (List.mem_cons_of_mem _ hv))]
       rw [this _ (fun v hv=>?_)]
       ·exact hds
       ·obtain ⟨p,hp,rfl⟩:=List.mem_map.1 hv
        refine hvals _ hv (a.eval p.2) (hops p.2 ?_)
        simp only [Op.operands,ho]
        show p.2∈parts.toList.map (·.2)
        exact List.mem_map.2 ⟨p,hp,rfl⟩
      obtain ⟨E1,w1,H1,le1,I1,k1⟩:=frzFs_ok (parts.toList.map fun p=>ev s p.2) E I
      rw [frzFs_none _ _ hno] at H1
      obtain ⟨E',cv,b1,b2,b3,b4,b5⟩:=build_core hT hdr ho he hlen hsm hord (E:=E) (E1:=E1) hds' hops w1 I1 (by rw [H1];exact hg.2) (fun v c cv y hv hc hr hdy=>k1 E1 v c cv y hv hc (EnvLe.refl E1) I1 hr hdy)
      refine wp_value b5 (k E' cv (le1.trans b1) b2 ?_ ?_)
      ·rw [H1,hg.1] at b3;exact b3
      ·rw [b4,H1];rfl
   ·cases h
  ·cases h
 ·rename_i t l c ho
  split at h
  ·rename_i d e hd0 he
   obtain ⟨hd,hdr⟩:=guardD_some hd0
   split at h
   ·rename_i n m hn hl hc
    split at h
    ·rename_i h0
     split at h
     ·rename_i h1
      split at h
      ·rename_i h2
       exact ⟨_,_,h,Done.ofD hd hn (q_make hT hdr ho he hn hl hc h0 h1 h2)⟩
      ·cases h
     ·cases h
    ·cases h
   ·cases h
  ·cases h
 ·rename_i t a ho
  split at h
  ·rename_i cs off ha
   split at h
   ·rename_i v hv
    exact ⟨_,_,h,Done.ofQ (q_load hT ho ha hv)⟩
   ·cases h
  ·cases h
 ·rename_i t a x ho
  split at h
  ·cases h
  ·obtain ⟨h',h1,h2⟩:=l_store (P:=P) hT ho h
   exact ⟨_,_,h1,Done.ofL h2⟩
 ·rename_i t x f ho
  split at h
  ·rename_i o' cs hf ha
   split at h
   ·rename_i hx;exact ⟨_,_,h,Done.ofQ (q_fieldAddr hT ho hf ha (by rw [hx]))⟩
   ·rename_i hx;exact ⟨_,_,h,Done.ofQ (q_fieldAddr hT ho hf ha (by rw [hx]))⟩
   ·rename_i hx;exact ⟨_,_,h,Done.ofQ (q_fieldAddr hT ho hf ha (by rw [hx]))⟩
   ·cases h
  ·cases h
 ·rename_i t x i ho
  split at h
  ·rename_i e k i' he hi
   obtain ⟨v,h1,h2⟩:=q_index (P:=P) hT ho he hi h
   exact ⟨v,_,h1,Done.ofQ h2⟩
  ·rename_i e k i' he hi
   split at h
   ·rename_i m
    split at h
    ·rename_i o' n' cs hta hpl hat
     split at h
     ·rename_i hx;exact ⟨_,_,h,Done.ofQ (q_indexArr hT ho hi hpl hat hta (by rw [hx]))⟩
     ·rename_i hx;exact ⟨_,_,h,Done.ofQ (q_indexArr hT ho hi hpl hat hta (by rw [hx]))⟩
     ·rename_i hx;exact ⟨_,_,h,Done.ofQ (q_indexArr hT ho hi hpl hat hta (by rw [hx]))⟩
     ·cases h
    ·cases h
   ·cases h
  ·cases h
 ·rename_i t x i ho
  split at h
  ·rename_i b k i' he hx hi
   split at h
   ·rename_i h0
    split at h
    ·rename_i h1
     refine ⟨_,_,h,Done.ofQ (QOk.val fun B E a I hs hops=>?_)⟩
     have e1:=hops x (by simp [Op.operands,ho])
     have e2:=hops i (by simp [Op.operands,ho])
     rw [hx,RepF] at e1
     rw [hi,RepF] at e2
     obtain ⟨d,hd,hd2⟩:=(hT.ty t _ he).desc
     have hd2:d=.string:=hd2
     subst hd2
     refine ⟨.int .u8 (bt b i'),?_,by rw [RepF];exact rep_int.2 rfl⟩
     simp only [execOp,ho,rep_str.1 e1,rep_int.1 e2]
     rw [Sem.run_bind,run_index_string E.w t b k i' hd,dif_pos ⟨h0,h1⟩]
     have hlt:i'.toNat<b.size:=by omega
     unfold bt
     rw [dif_pos hlt]
     rfl
    ·cases h
   ·cases h
  ·cases h
 ·rename_i x ho
  split at h
  ·rename_i cs id g off ha hx
   refine ⟨_,_,h,Done.ofQ (QOk.val fun B E a I hs hops=>?_)⟩
   have e1:=hops x (by simp [Op.operands,ho])
   obtain ⟨b,p,hav,_⟩:=at_ok (cs:=cs.1) (off:=cs.2) I hs e1 ha
   rw [hx] at e1
   refine ⟨a.eval x,?_,e1⟩
   simp [execOp,ho,hav]
  ·rename_i cs e xs i off ha hx
   refine ⟨_,_,h,Done.ofQ (QOk.val fun B E a I hs hops=>?_)⟩
   have e1:=hops x (by simp [Op.operands,ho])
   obtain ⟨b,p,hav,_⟩:=at_ok (cs:=cs.1) (off:=cs.2) I hs e1 ha
   rw [hx] at e1
   refine ⟨a.eval x,?_,e1⟩
   simp [execOp,ho,hav]
  ·rename_i cs id g i off ha hx
   refine ⟨_,_,h,Done.ofQ (QOk.val fun B E a I hs hops=>?_)⟩
   have e1:=hops x (by simp [Op.operands,ho])
   obtain ⟨b,p,hav,_⟩:=at_ok (cs:=cs.1) (off:=cs.2) I hs e1 ha
   rw [hx] at e1
   refine ⟨a.eval x,?_,e1⟩
   simp [execOp,ho,hav]
  ·cases h
 ·rename_i op t x y t2 ho
  split at h
  ·rename_i a b hx hy
   obtain ⟨v,h1,h2⟩:=q_eqs (P:=P) hT ho hx hy h
   exact ⟨v,_,h1,Done.of0 h2⟩
  ·obtain ⟨v,h1,h2⟩:=q_bin (P:=P) hT ho h
   exact ⟨v,_,h1,Done.of0 h2⟩
 ·rename_i src dst x ho
  split at h
  ·rename_i k0 k k2 n h1 h2 hx
   exact ⟨_,_,h,Done.of0 (q_convert hT ho h1 h2 hx)⟩
  ·cases h
 ·rename_i op t x ho
  obtain ⟨v,h1,h2⟩:=q_un (P:=P) ho h
  exact ⟨v,_,h1,Done.of0 h2⟩
 ·rename_i t x lo hi mx ho
  split at h
  ·split at h
   ·rename_i id g hx
    obtain ⟨rfl,v,h',h1,h2⟩:=l_cut (P:=P) hT ho hx h
    exact ⟨v,h',h1,Done.ofL h2⟩
   ·rename_i hx
    split at h
    ·split at h
     ·rename_i h0
      exact ⟨_,_,h,Done.of0 (q_slice0 hT ho hx (by assumption) (by assumption) h0)⟩
     ·cases h
    ·cases h
   ·obtain ⟨v,h1,h2⟩:=q_slice (P:=P) hT ho h
    exact ⟨v,_,h1,Done.of0 h2⟩
  ·cases h
 ·rename_i t ix ho
  split at h
  ·rename_i vs hx
   split at h
   ·rename_i v hv
    refine ⟨_,_,h,Done.ofQ (QOk.val fun B E a I hs hops=>?_)⟩
    have e1:=hops t (by simp [Op.operands,ho])
    rw [hx,RepF] at e1
    obtain ⟨cvs,h1,h2⟩:=e1
    obtain ⟨cv,h3,h4⟩:=h2.get _ _ hv
    refine ⟨cv,?_,h4⟩
    simp [execOp,ho,h1,Instr.extract,h3]
   ·cases h
  ·cases h
 ·rename_i fn first caps ho
  split at h
  ·rename_i f hfirst
   refine ⟨_,_,h,Done.ofQ (QOk.val fun B E a I hs hops=>?_)⟩
   have hf0:first=#[]:=by cases first;simpa using hfirst
   subst hf0
   refine ⟨.func (.func f) #[] (caps.map a.eval),?_,?_⟩
   ·simp [execOp,ho,Instr.makeFunc]
   ·rw [RepF]
    refine ⟨caps.toList.map a.eval,by congr 1;apply Array.ext';simp,map_reps (fun x hx=>hops x (by simp [Op.operands,ho];simpa using hx))⟩
  ·cases h
 ·rename_i c ho
  split at h
  ·rename_i b hb
   obtain ⟨callee,args,argTypes⟩:=c
   simp only at hb h
   subst hb
   unfold builtinK at h
   split at h
   ·
    rename_i x hargs
    obtain ⟨X,hX,hx⟩:∃X,args=#[X]∧ev s X=x:=by
     cases args with
     | mk l=>
      cases l with
      | nil=>cases hargs
      | cons X l=>
       cases l with
       | nil=>simp at hargs;exact ⟨X,rfl,hargs⟩
       | cons Y l=>simp at hargs
    subst hX
    split at h
    ·rename_i t ts hts
     have ht0:argTypes[0]?=some t:=by
      cases argTypes with
      | mk l=>simp at hts⊢;subst hts;rfl
     have run:∀(E:Env T) (a:Act) cv,OpsOk E o s a→(Builtin.len_ argTypes o.type #[a.eval X]).run P E.w=.ok cv E.w→(execOp a.eval o).run P E.w=.ok (.value cv) E.w:=by
      intro E a cv _ hr
      simp only [execOp,ho,resolve,Go.builtin,invoke]
      simp only [List.map_toArray,List.map_cons,List.map_nil]
      simp [hr]
     split at h
     ·rename_i b hty
      refine ⟨_,_,h,Done.ofQ (QOk.val fun B E a I hs hops=>⟨goInt b.size,run E a _ hops ?_,by rw [RepF];exact rep_int.2 rfl⟩)⟩
      have e1:=hops X (by simp [Op.operands,Call.operands,ho])
      rw [hx,RepF] at e1
      obtain ⟨dd,hu,rfl⟩:=(hT.ty _ _ hty).desc
      rw [rep_str.1 e1]
      simp [Builtin.len_,ht0,run_underlying hu]
     ·rename_i e hty
      refine ⟨_,_,h,Done.ofQ (QOk.val fun B E a I hs hops=>⟨goInt ((0:Nat):Int),run E a _ hops ?_,by rw [RepF];exact rep_int.2 rfl⟩)⟩
      have e1:=hops X (by simp [Op.operands,Call.operands,ho])
      rw [hx,RepF] at e1
      obtain ⟨A,hA⟩:=e1
      obtain ⟨dd,hu,t',rfl,ht'⟩:=(hT.ty _ _ hty).desc
      rw [hA]
      simp [Builtin.len_,ht0,run_underlying hu]
     ·rename_i e hty _
      split at h
      ·rename_i e2 xs hxs
       refine ⟨_,_,h,Done.ofQ (QOk.val fun B E a I hs hops=>⟨goInt xs.length,run E a _ hops ?_,by rw [RepF];exact rep_int.2 rfl⟩)⟩
       have e1:=hops X (by simp [Op.operands,Call.operands,ho])
       rw [hx] at e1
       obtain ⟨A,c,hA⟩:=lst_len hs I e1 hxs
       obtain ⟨dd,hu,t',rfl,ht'⟩:=(hT.ty _ _ hty).desc
       rw [hA]
       simp [Builtin.len_,ht0,run_underlying hu]
      ·cases h
     ·cases h
    ·cases h
   ·
    rename_i hargs
    obtain ⟨X,hX,hx⟩:∃X,args=#[X]∧ev s X=.nil:=by
     cases args with
     | mk l=>
      cases l with
      | nil=>cases hargs
      | cons X l=>
       cases l with
       | nil=>simp at hargs;exact ⟨X,rfl,hargs⟩
       | cons Y l=>simp at hargs
    subst hX
    split at h
    ·rename_i t ts hts
     have ht0:argTypes[0]?=some t:=by
      cases argTypes with
      | mk l=>simp at hts⊢;subst hts;rfl
     split at h
     ·rename_i e hty
      refine ⟨_,_,h,Done.ofQ (QOk.val fun B E a I hs hops=>⟨goInt ((0:Nat):Int),?_,by rw [RepF];exact rep_int.2 rfl⟩)⟩
      have e1:=hops X (by simp [Op.operands,Call.operands,ho])
      rw [hx,RepF] at e1
      obtain ⟨A,hA⟩:=e1
      obtain ⟨dd,hu,t',rfl,ht'⟩:=(hT.ty _ _ hty).desc
      have hr:(Builtin.cap_ argTypes o.type #[a.eval X]).run P E.w=.ok (goInt ((0:Nat):Int)) E.w:=by
       rw [hA]
       simp [Builtin.cap_,ht0,run_underlying hu]
      simp only [execOp,ho,resolve,Go.builtin,invoke]
      simp only [List.map_toArray,List.map_cons,List.map_nil]
      simp [hr]
     ·cases h
    ·cases h
   ·
    rename_i x r' hargs
    split at h
    ·rename_i a0 l hi
     refine ⟨_,_,h,Done.ofQ (QOk.val fun B E a I hs hops=>⟨.int .i64 (maxI a0 l),?_,by rw [RepF];exact rep_int.2 rfl⟩)⟩
     have hev:=ints_eval (E:=E) (a:=a) (by rw [hargs];exact hi) (fun x hx=>hops x (by simp [Op.operands,Call.operands,ho,hx]))
     have hm:(Builtin.max_ argTypes o.type (args.map a.eval)).run P E.w=.ok (.int .i64 (maxI a0 l)) E.w:=by
      unfold Builtin.max_
      rw [Array.toList_map,hev,List.map_cons]
      exact run_max E.w l a0
     simp only [execOp,ho,resolve,Go.builtin,invoke]
     simp [hm]
    ·cases h
   ·
    rename_i x r' hargs
    split at h
    ·rename_i a0 l hi
     refine ⟨_,_,h,Done.ofQ (QOk.val fun B E a I hs hops=>⟨.int .i64 (minI a0 l),?_,by rw [RepF];exact rep_int.2 rfl⟩)⟩
     have hev:=ints_eval (E:=E) (a:=a) (by rw [hargs];exact hi) (fun x hx=>hops x (by simp [Op.operands,Call.operands,ho,hx]))
     have hm:(Builtin.min_ argTypes o.type (args.map a.eval)).run P E.w=.ok (.int .i64 (minI a0 l)) E.w:=by
      unfold Builtin.min_
      rw [Array.toList_map,hev,List.map_cons]
      exact run_min E.w l a0
     simp only [execOp,ho,resolve,Go.builtin,invoke]
     simp [hm]
    ·cases h
   ·
    rename_i x y hargs
    obtain ⟨X,Y,hX,hx,hy⟩:∃X Y,args=#[X,Y]∧ev s X=x∧ev s Y=y:=by
     cases args with
     | mk l=>
      match l,hargs with
      | [X,Y],hargs=>simp at hargs;exact ⟨X,Y,rfl,hargs.1,hargs.2⟩
    subst hX hx hy
    split at h
    ·rename_i t t2 hts
     split at h
     ·rename_i e he htt
      obtain ⟨hq,v,h',h1,h2⟩:=l_append (P:=P) hT ho hts htt he h
      subst hq
      exact ⟨v,h',h1,Done.ofL h2⟩
     ·rename_i e he htt
      obtain ⟨hq,v,h',h1,h2⟩:=l_append0 (P:=P) hT ho hts he h
      subst hq
      exact ⟨v,h',h1,Done.ofL h2⟩
     ·cases h
    ·cases h
   ·cases h
  ·rename_i f hf
   split at h
   ·rename_i n caps hfv
    split at h
    ·split at h
     ·cases h
     ·split at h
      ·cases h
      rename_i hrel
      obtain ⟨res,h',hent,hcon,hk⟩:=hcal.l _ _ _ _ _ _ hrel h
      refine ⟨res,h',hk,Done.ofL ?_⟩
      intro B E a I hE hops next Q k
      exact call_core2 ho hf hfv hent hcon I hE hops k
    ·split at h
     ·rename_i ars has
      obtain ⟨res,hp,hent,hcon,hk⟩:=hcal.q _ _ _ _ h
      split at hk
      ·rename_i hpl
       refine ⟨_,_,hk,Done.ofQ ?_⟩
       intro B E a I hs _ hops next Q k
       exact (call_core ho hf hfv has hp hent hcon I hs hops).1 hpl (fun E' cv h1 h2 h3 h4=>k E' cv h1 h2 h3 h4)
      ·split at hk
       ·cases hk
       ·rename_i hqo
        refine ⟨_,_,hk,?_,fun hq=>?_⟩
        ·intro B E a I hE hops next Q k
         exact (call_core ho hf hfv has hp hent hcon I (hE▸Sub.refl _) hops).2 (fun E' cv h1 h2 h3 h4=>k E' cv h1 h2 h3 (by rw [h4,hE]))
        ·subst hq
         have hno:hasOwn (c.args.toList.map (ev s)++caps)=false:=by simpa using hqo
         refine ⟨none,by rw [frzFs_none _ _ hno];rfl,(fun d c h=>by cases h),?_⟩
         intro B E a I hs _ hops next Q k
         exact (call_core ho hf hfv has hp hent hcon I hs hops).2 (fun E' cv h1 h2 h3 h4=>k E' cv h1 h2 h3 (by rw [h4,frzFs_none _ _ hno];rfl))
     ·cases h
   ·cases h
  ·cases h
 ·cases h
theorem aop0_ok {P:Program} (hT:TblOk P T) {cal:Cal T R} {o:Oper} {s:St T} {K:FV T→(Nat→Slot T)→Option R} {r:R} (h:aop T cal o true s K=some r) (hc:cls cal o s=0):
  ∃v,K v s.h=some r∧Q0 P o s v:=by
 unfold aop at h
 unfold cls at hc
 split at h
 ·rename_i x ho;exact ⟨_,h,(q_move (.inl ho))⟩
 ·rename_i x ho;exact ⟨_,h,(q_move (.inr ho))⟩
 ·rename_i c a b ho
  split at h
  ·rename_i hc
   exact ⟨_,h,(q_pick ho true (fun E v hv=>(pick_val hv).1 hc))⟩
  ·rename_i hc
   exact ⟨_,h,(q_pick ho false (fun E v hv=>(pick_val hv).2.1 hc))⟩
  ·rename_i p i hc
   by_cases hp:p
   ·rw [if_pos hp] at h
    exact ⟨_,h,(q_pick ho true (fun E v hv=>by rw [(pick_val hv).2.2.1 p i hc];simp [hp]))⟩
   ·rw [if_neg hp] at h
    exact ⟨_,h,(q_pick ho false (fun E v hv=>by rw [(pick_val hv).2.2.1 p i hc];simp [hp]))⟩
  ·rename_i b' hc
   by_cases hp:b'=true
   ·rw [if_pos hp] at h
    exact ⟨_,h,(q_pick ho true (fun E v hv=>by rw [(pick_val hv).2.2.2 b' hc,hp]))⟩
   ·rw [if_neg hp] at h
    exact ⟨_,h,(q_pick ho false (fun E v hv=>by rw [(pick_val hv).2.2.2 b' hc];simpa using hp))⟩
  ·cases h
 ·rename_i t ho;rw [ho] at hc;simp at hc
 ·rename_i t x ho;rw [ho] at hc;simp at hc
 ·rename_i t parts ho
  split at h
  ·rename_i e x0 he h0
   split at h
   ·rename_i cs hcs
    exact ⟨_,h,(q_build hT ho he h0 hcs)⟩
   ·cases h
  ·cases h
 ·rename_i t n parts ho
  rw [ho] at hc
  simp only at hc
  split at hc <;> cases hc
 ·rename_i t l c ho;rw [ho] at hc;simp at hc
 ·rename_i t a ho;rw [ho] at hc;simp at hc
 ·rename_i t a x ho;rw [ho] at hc;simp at hc
 ·rename_i t x f ho;rw [ho] at hc;simp at hc
 ·rename_i t x i ho;rw [ho] at hc;simp at hc
 ·rename_i t x i ho
  split at h
  ·rename_i b k i' he hx hi
   split at h
   ·rename_i h0
    split at h
    ·rename_i h1
     refine ⟨_,h,fun B E a I hops=>?_⟩
     have e1:=hops x (by simp [Op.operands,ho])
     have e2:=hops i (by simp [Op.operands,ho])
     rw [hx,RepF] at e1
     rw [hi,RepF] at e2
     obtain ⟨d,hd,hd2⟩:=(hT.ty t _ he).desc
     have hd2:d=.string:=hd2
     subst hd2
     refine ⟨.int .u8 (bt b i'),?_,by rw [RepF];exact rep_int.2 rfl⟩
     simp only [execOp,ho,rep_str.1 e1,rep_int.1 e2]
     rw [Sem.run_bind,run_index_string E.w t b k i' hd,dif_pos ⟨h0,h1⟩]
     have hlt:i'.toNat<b.size:=by omega
     unfold bt
     rw [dif_pos hlt]
     rfl
    ·cases h
   ·cases h
  ·cases h
 ·rename_i x ho;rw [ho] at hc;simp at hc
 ·rename_i op t x y t2 ho
  split at h
  ·rename_i a b hx hy
   obtain ⟨v,h1,h2⟩:=q_eqs (P:=P) hT ho hx hy h
   exact ⟨v,h1,h2⟩
  ·obtain ⟨v,h1,h2⟩:=q_bin (P:=P) hT ho h
   exact ⟨v,h1,h2⟩
 ·rename_i src dst x ho
  split at h
  ·rename_i k0 k k2 n h1 h2 hx
   exact ⟨_,h,(q_convert hT ho h1 h2 hx)⟩
  ·cases h
 ·rename_i op t x ho
  obtain ⟨v,h1,h2⟩:=q_un (P:=P) ho h
  exact ⟨v,h1,h2⟩
 ·rename_i t x lo hi mx ho
  rw [ho] at hc
  simp only at hc
  split at h
  ·split at h
   ·rename_i id g hx
    rw [hx] at hc
    simp at hc
   ·rename_i hx
    split at h
    ·split at h
     ·rename_i h0
      exact ⟨_,h,q_slice0 hT ho hx (by assumption) (by assumption) h0⟩
     ·cases h
    ·cases h
   ·obtain ⟨v,h1,h2⟩:=q_slice (P:=P) hT ho h
    exact ⟨v,h1,h2⟩
  ·cases h
 ·rename_i t ix ho
  split at h
  ·rename_i vs hx
   split at h
   ·rename_i v hv
    refine ⟨_,h,fun B E a I hops=>?_⟩
    have e1:=hops t (by simp [Op.operands,ho])
    rw [hx,RepF] at e1
    obtain ⟨cvs,h1,h2⟩:=e1
    obtain ⟨cv,h3,h4⟩:=h2.get _ _ hv
    refine ⟨cv,?_,h4⟩
    simp [execOp,ho,h1,Instr.extract,h3]
   ·cases h
  ·cases h
 ·rename_i fn first caps ho
  split at h
  ·rename_i f hfirst
   refine ⟨_,h,fun B E a I hops=>?_⟩
   have hf0:first=#[]:=by cases first;simpa using hfirst
   subst hf0
   refine ⟨.func (.func f) #[] (caps.map a.eval),?_,?_⟩
   ·simp [execOp,ho,Instr.makeFunc]
   ·rw [RepF]
    refine ⟨caps.toList.map a.eval,by congr 1;apply Array.ext';simp,map_reps (fun x hx=>hops x (by simp [Op.operands,ho];simpa using hx))⟩
  ·cases h
 ·rename_i c ho
  rw [ho] at hc
  simp only at hc
  split at hc
  ·cases hc
  ·split at hc
   ·split at hc
    ·cases hc
    ·split at hc <;> cases hc
   ·cases hc
  ·cases hc
 ·cases h
end
end Go.Proofs.YtggmgmkhohmfiaaGreat.PE
