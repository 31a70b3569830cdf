/- The function FnBothAtOnce returns true for all its arguments, on typed values. -/
import Derived.Test.YtggmgmkhohmfiaaGreatGBothAtOnce1
namespace Go.Proofs.YtggmgmkhohmfiaaGreat.Pure
open Go Go.RowKit Go.Proofs.YtggmgmkhohmfiaaGreat.PE
set_option linter.unusedVariables false
set_option linter.unusedSimpArgs false
def Ev {α:Type} (g:Nat→Option α) (r:α):Prop:=∃K,∀k,K≤k→g k=some r
def Wp {α:Type} (g:Nat→Option α) (P:α→Prop):Prop:=∃r,Ev g r∧P r
theorem Ev.ret {α:Type} {r:α}:Ev (fun _=>some r) r:=⟨0,fun _ _=>rfl⟩
theorem Ev.cst {α:Type} {g:Option α} {r:α} (h:g=some r):Ev (fun _=>g) r:=⟨0,fun _ _=>h⟩
theorem Wp.ret {ρ:Type} {P:ρ→Prop} {r:ρ} (h:P r):Wp (fun _=>some r) P:=⟨r,Ev.ret,h⟩
theorem Ev.bind {α β:Type} {g:Nat→Option α} {f:α→Nat→Option β} {v:α} {r:β} (h:Ev g v) (k:Ev (fun k=>f v k) r):Ev (fun k=>(g k).bind fun x=>f x k) r:=by
 obtain ⟨K,h⟩:=h;obtain ⟨M,k⟩:=k
 exact ⟨max K M,fun n hn=>by show (g n).bind _=_;rw [h n (by omega)];exact k n (by omega)⟩
theorem Wp.bindE {α ρ:Type} {P:ρ→Prop} {g:Nat→Option α} {f:α→Nat→Option ρ} {v:α} (h:Ev g v) (k:Wp (fun k=>f v k) P):Wp (fun k=>(g k).bind fun x=>f x k) P:=by
 obtain ⟨r,k,p⟩:=k;exact ⟨r,h.bind k,p⟩
theorem Wp.bind {α ρ:Type} {P:ρ→Prop} {g:Nat→Option α} {f:α→Nat→Option ρ} {Q:α→Prop} (h:Wp g Q) (k:∀v,Q v→Wp (fun k=>f v k) P):Wp (fun k=>(g k).bind fun x=>f x k) P:=by
 obtain ⟨v,h,q⟩:=h;exact Wp.bindE h (k v q)
theorem Ev.step {α:Type} {g f:Nat→Option α} {r:α} (e:∀k,g (k+1)=f k) (h:Ev f r):Ev g r:=by
 obtain ⟨K,h⟩:=h
 refine ⟨K+1,fun n hn=>?_⟩
 obtain ⟨m,rfl⟩:∃m,n=m+1:=⟨n - 1,by omega⟩
 rw [e];exact h m (by omega)
theorem Wp.step {ρ:Type} {P:ρ→Prop} {g f:Nat→Option ρ} (e:∀k,g (k+1)=f k) (h:Wp f P):Wp g P:=by
 obtain ⟨r,h,p⟩:=h;exact ⟨r,h.step e,p⟩
theorem Wp.eqn {ρ:Type} {P:ρ→Prop} {g f:Nat→Option ρ} (e:∀k,g k=f k) (h:Wp f P):Wp g P:=by
 obtain ⟨r,⟨K,h⟩,p⟩:=h;exact ⟨r,⟨K,fun k hk=>(e k).trans (h k hk)⟩,p⟩
theorem Wp.ite {ρ:Type} {P:ρ→Prop} {c:Prop} {_:Decidable c} {a b:Nat→Option ρ} (h:c→Wp a P) (k:¬c→Wp b P):Wp (fun k=>if c then a k else b k) P:=by
 by_cases hc:c
 ·exact Wp.eqn (fun k=>if_pos hc) (h hc)
 ·exact Wp.eqn (fun k=>if_neg hc) (k hc)
theorem Wp.itet {ρ:Type} {P:ρ→Prop} {c:Prop} {_:Decidable c} {a b:Nat→Option ρ} (hc:c) (h:Wp a P):Wp (fun k=>if c then a k else b k) P:=Wp.eqn (fun k=>if_pos hc) h
theorem Wp.itef {ρ:Type} {P:ρ→Prop} {c:Prop} {_:Decidable c} {a b:Nat→Option ρ} (hc:¬c) (h:Wp b P):Wp (fun k=>if c then a k else b k) P:=Wp.eqn (fun k=>if_neg hc) h
theorem Wp.mono {ρ:Type} {P:ρ→Prop} {g:Nat→Option ρ} {Q:ρ→Prop} (h:Wp g Q) (k:∀r,Q r→P r):Wp g P:=by obtain ⟨r,h,q⟩:=h;exact ⟨r,h,k r q⟩
theorem Wp.ev {ρ:Type} {g:Nat→Option ρ} {v:ρ} (h:Wp g (fun r=>r=v)):Ev g v:=by obtain ⟨r,h,rfl⟩:=h;exact h
theorem Ev.wp {ρ:Type} {P:ρ→Prop} {g:Nat→Option ρ} {v:ρ} (h:Ev g v) (p:P v):Wp g P:=⟨v,h,p⟩
theorem Ev.val {α:Type} {g:Nat→Option α} {r r':α} (h:Ev g r) (e:r=r'):Ev g r':=e▸h
theorem Wp.done {g:Nat→Option Bool} (h:Wp g (fun r=>r=true)):∃k,g k=some true:=by
 obtain ⟨r,⟨K,h⟩,rfl⟩:=h;exact ⟨K,h K (Nat.le_refl _)⟩
theorem wrap_id {x:Int} (h0: -9223372036854775808≤x) (h1:x≤9223372036854775807):wrap64 x=x:=by
 unfold wrap64
 omega
structure Nx (n:Nat):Prop where
 e:wrap64 ((n:Int)+1)=(n:Int)+1
theorem getD_at {α:Type} (z:α) (p:List α) (x:α) (q:List α):(p++x::q).getD p.length z=x:=by simp
theorem rdOf_at {α:Type} (z:α) (p:List α) (x:α) (q:List α):rdOf z (p++x::q) (p.length:Int)=x:=getD_at z p x q
theorem rdOf_mem {α:Type} {z:α} {l:List α} {i:Int} (h0:0≤i) (h1:i<(l.length:Int)):rdOf z l i∈l:=by
 unfold rdOf
 rw [List.getD_eq_getElem?_getD,List.getElem?_eq_getElem (by omega)]
 exact List.getElem_mem _
theorem Wp.each {α ρ:Type} {P:ρ→Prop} {σ:Type} (l:List α) (z:α) (hl:l.length≤1000000000) (L:Nat→Int→σ→Option ρ) (I:List α→σ→Prop)
  (step:∀(p:List α) (x:α) (q:List α) (s:σ),l=p++x::q→x∈l→l.length=p.length+1+q.length→rdOf z l (p.length:Int)=x→Nx p.length→I p s→(∀s',I (p++[x]) s'→Wp (fun k=>L k ((p.length:Int)+1) s') P)→Wp (fun k=>L k (p.length:Int) s) P)
  (stop:∀s,I l s→Wp (fun k=>L k (l.length:Int) s) P) (s:σ) (h0:I [] s):Wp (fun k=>L k 0 s) P:=by
 have key:∀(q p:List α) (s:σ),l=p++q→I p s→Wp (fun k=>L k (p.length:Int) s) P:=by
  intro q
  induction q with
  | nil=>
   intro p s e h
   rw [List.append_nil] at e
   subst e
   exact stop s h
  | cons x q ih=>
   intro p s e h
   have hlen:l.length=p.length+1+q.length:=by rw [e];simp;omega
   refine step p x q s e (by rw [e];simp) hlen (by rw [e];exact rdOf_at z p x q) ⟨wrap_id (by omega) (by omega)⟩ h fun s' h'=>?_
   have:=ih (p++[x]) s' (by rw [e];simp) h'
   rw [show ((p++[x]).length:Int)=(p.length:Int)+1 from by simp] at this
   exact this
 exact key l [] s rfl h0
theorem Wp.each0 {α ρ:Type} {P:ρ→Prop} (l:List α) (z:α) (hl:l.length≤1000000000) (L:Nat→Int→Option ρ) (I:List α→Prop)
  (step:∀(p:List α) (x:α) (q:List α),l=p++x::q→x∈l→l.length=p.length+1+q.length→rdOf z l (p.length:Int)=x→Nx p.length→I p→(I (p++[x])→Wp (fun k=>L k ((p.length:Int)+1)) P)→Wp (fun k=>L k (p.length:Int)) P)
  (stop:I l→Wp (fun k=>L k (l.length:Int)) P) (h0:I []):Wp (fun k=>L k 0) P:=
 Wp.each (σ:=Unit) l z hl (fun k i s=>L k i) (fun p s=>I p) (fun p x q s e m hn hr hw h ih=>step p x q e m hn hr hw h (fun h'=>ih () h')) (fun s h=>stop h) () h0
theorem Wp.each1 {α ρ σ0:Type} {P:ρ→Prop} (l:List α) (z:α) (hl:l.length≤1000000000) (L:Nat→Int→σ0→Option ρ) (I:List α→σ0→Prop)
  (step:∀(p:List α) (x:α) (q:List α) (s0:σ0),l=p++x::q→x∈l→l.length=p.length+1+q.length→rdOf z l (p.length:Int)=x→Nx p.length→I p s0→(∀(t0:σ0),I (p++[x]) t0→Wp (fun k=>L k ((p.length:Int)+1) t0) P)→Wp (fun k=>L k (p.length:Int) s0) P)
  (stop:∀(s0:σ0),I l s0→Wp (fun k=>L k (l.length:Int) s0) P) (s0:σ0) (h0:I [] s0):Wp (fun k=>L k 0 s0) P:=
 Wp.each (σ:=σ0) l z hl (fun k i s=>L k i s) (fun p s=>I p s) (fun p x q s e m hn hr hw h ih=>step p x q s e m hn hr hw h (fun t0 h'=>ih t0 h')) (fun s h=>stop s h) s0 h0
theorem Wp.each2 {α ρ σ0 σ1:Type} {P:ρ→Prop} (l:List α) (z:α) (hl:l.length≤1000000000) (L:Nat→Int→σ0→σ1→Option ρ) (I:List α→σ0→σ1→Prop)
  (step:∀(p:List α) (x:α) (q:List α) (s0:σ0) (s1:σ1),l=p++x::q→x∈l→l.length=p.length+1+q.length→rdOf z l (p.length:Int)=x→Nx p.length→I p s0 s1→(∀(t0:σ0) (t1:σ1),I (p++[x]) t0 t1→Wp (fun k=>L k ((p.length:Int)+1) t0 t1) P)→Wp (fun k=>L k (p.length:Int) s0 s1) P)
  (stop:∀(s0:σ0) (s1:σ1),I l s0 s1→Wp (fun k=>L k (l.length:Int) s0 s1) P) (s0:σ0) (s1:σ1) (h0:I [] s0 s1):Wp (fun k=>L k 0 s0 s1) P:=
 Wp.each (σ:=σ0×σ1) l z hl (fun k i s=>L k i s.1 s.2) (fun p s=>I p s.1 s.2) (fun p x q s e m hn hr hw h ih=>step p x q s.1 s.2 e m hn hr hw h (fun t0 t1 h'=>ih (t0,t1) h')) (fun s h=>stop s.1 s.2 h) (s0,s1) h0
theorem snocAll {α:Type} {Q:α→Prop} {p:List α} {x:α} (h:∀y∈p,Q y) (k:Q x):∀y∈p++[x],Q y:=fun y hy=>(List.mem_append.1 hy).elim (h y) (fun e=>by rw [List.mem_singleton.1 e];exact k)
theorem Wp.cnt {ρ:Type} {P:ρ→Prop} {σ:Type} (n:Nat) (hl:n≤1000000000) (L:Nat→Int→σ→Option ρ) (I:Nat→σ→Prop)
  (step:∀(i:Nat) (s:σ),i<n→Nx i→I i s→(∀s',I (i+1) s'→Wp (fun k=>L k ((i:Int)+1) s') P)→Wp (fun k=>L k (i:Int) s) P)
  (stop:∀s,I n s→Wp (fun k=>L k (n:Int) s) P) (s:σ) (h0:I 0 s):Wp (fun k=>L k 0 s) P:=by
 have key:∀(d i:Nat) (s:σ),i+d=n→I i s→Wp (fun k=>L k (i:Int) s) P:=by
  intro d
  induction d with
  | zero=>intro i s e h;obtain rfl:i=n:=(by omega);exact stop s h
  | succ d ih=>
   intro i s e h
   refine step i s (by omega) ⟨wrap_id (by omega) (by omega)⟩ h fun s' h'=>?_
   have:=ih (i+1) s' (by omega) h'
   rw [show ((i+1:Nat):Int)=(i:Int)+1 from by omega] at this
   exact this
 exact key n 0 s (by omega) h0
theorem Wp.cnt0 {ρ:Type} {P:ρ→Prop} (n:Nat) (hl:n≤1000000000) (L:Nat→Int→Option ρ) (I:Nat→Prop)
  (step:∀(i:Nat),i<n→Nx i→I i→(I (i+1)→Wp (fun k=>L k ((i:Int)+1)) P)→Wp (fun k=>L k (i:Int)) P)
  (stop:I n→Wp (fun k=>L k (n:Int)) P) (h0:I 0):Wp (fun k=>L k 0) P:=
 Wp.cnt (σ:=Unit) n hl (fun k i s=>L k i) (fun i s=>I i) (fun i s hi hw h ih=>step i hi hw h (fun h'=>ih () h')) (fun s h=>stop h) () h0
theorem Wp.cnt1 {ρ σ0:Type} {P:ρ→Prop} (n:Nat) (hl:n≤1000000000) (L:Nat→Int→σ0→Option ρ) (I:Nat→σ0→Prop)
  (step:∀(i:Nat) (s0:σ0),i<n→Nx i→I i s0→(∀(t0:σ0),I (i+1) t0→Wp (fun k=>L k ((i:Int)+1) t0) P)→Wp (fun k=>L k (i:Int) s0) P)
  (stop:∀(s0:σ0),I n s0→Wp (fun k=>L k (n:Int) s0) P) (s0:σ0) (h0:I 0 s0):Wp (fun k=>L k 0 s0) P:=
 Wp.cnt (σ:=σ0) n hl (fun k i s=>L k i s) (fun i s=>I i s) (fun i s hi hw h ih=>step i s hi hw h (fun t0 h'=>ih t0 h')) (fun s h=>stop s h) s0 h0
theorem Wp.cnt2 {ρ σ0 σ1:Type} {P:ρ→Prop} (n:Nat) (hl:n≤1000000000) (L:Nat→Int→σ0→σ1→Option ρ) (I:Nat→σ0→σ1→Prop)
  (step:∀(i:Nat) (s0:σ0) (s1:σ1),i<n→Nx i→I i s0 s1→(∀(t0:σ0) (t1:σ1),I (i+1) t0 t1→Wp (fun k=>L k ((i:Int)+1) t0 t1) P)→Wp (fun k=>L k (i:Int) s0 s1) P)
  (stop:∀(s0:σ0) (s1:σ1),I n s0 s1→Wp (fun k=>L k (n:Int) s0 s1) P) (s0:σ0) (s1:σ1) (h0:I 0 s0 s1):Wp (fun k=>L k 0 s0 s1) P:=
 Wp.cnt (σ:=σ0×σ1) n hl (fun k i s=>L k i s.1 s.2) (fun i s=>I i s.1 s.2) (fun i s hi hw h ih=>step i s.1 s.2 hi hw h (fun t0 t1 h'=>ih (t0,t1) h')) (fun s h=>stop s.1 s.2 h) (s0,s1) h0
theorem Wp.cnt4 {ρ σ0 σ1 σ2 σ3:Type} {P:ρ→Prop} (n:Nat) (hl:n≤1000000000) (L:Nat→Int→σ0→σ1→σ2→σ3→Option ρ) (I:Nat→σ0→σ1→σ2→σ3→Prop)
  (step:∀(i:Nat) (s0:σ0) (s1:σ1) (s2:σ2) (s3:σ3),i<n→Nx i→I i s0 s1 s2 s3→(∀(t0:σ0) (t1:σ1) (t2:σ2) (t3:σ3),I (i+1) t0 t1 t2 t3→Wp (fun k=>L k ((i:Int)+1) t0 t1 t2 t3) P)→Wp (fun k=>L k (i:Int) s0 s1 s2 s3) P)
  (stop:∀(s0:σ0) (s1:σ1) (s2:σ2) (s3:σ3),I n s0 s1 s2 s3→Wp (fun k=>L k (n:Int) s0 s1 s2 s3) P) (s0:σ0) (s1:σ1) (s2:σ2) (s3:σ3) (h0:I 0 s0 s1 s2 s3):Wp (fun k=>L k 0 s0 s1 s2 s3) P:=
 Wp.cnt (σ:=σ0×σ1×σ2×σ3) n hl (fun k i s=>L k i s.1 s.2.1 s.2.2.1 s.2.2.2) (fun i s=>I i s.1 s.2.1 s.2.2.1 s.2.2.2) (fun i s hi hw h ih=>step i s.1 s.2.1 s.2.2.1 s.2.2.2 hi hw h (fun t0 t1 t2 t3 h'=>ih (t0,t1,t2,t3) h')) (fun s h=>stop s.1 s.2.1 s.2.2.1 s.2.2.2 h) (s0,s1,s2,s3) h0
noncomputable def B (p:Prop):Bool:=@decide p (Classical.propDecidable p)
theorem B_iff {p:Prop}:B p=true↔p:=@decide_eq_true_iff p (Classical.propDecidable p)
theorem eqB {b:Bool} {p:Prop}:b=B p↔(b=true↔p):=by
 by_cases h:p
 ·rw [B_iff.2 h];simp [h]
 ·have:B p=false:=by rw [←Bool.not_eq_true,B_iff];exact h
  rw [this];simp [h]
theorem B_congr {p q:Prop} (h:p↔q):B p=B q:=by rw [eqB,B_iff];exact h
theorem not_B {p:Prop}:(!B p)=B (¬p):=by rw [eqB,Bool.not_eq_true',←Bool.not_eq_true,B_iff]
theorem dec_B {p:Prop} {_:Decidable p}:decide p=B p:=by rw [eqB,decide_eq_true_iff]
theorem Wp.iteB {ρ:Type} {P:ρ→Prop} {p:Prop} {a b:Nat→Option ρ} (h:p→Wp a P) (k:¬p→Wp b P):Wp (fun k=>if B p=true then a k else b k) P:=Wp.ite (fun e=>h (B_iff.1 e)) (fun e=>k (fun x=>e (B_iff.2 x)))
theorem Wp.itetB {ρ:Type} {P:ρ→Prop} {p:Prop} {a b:Nat→Option ρ} (hc:p) (h:Wp a P):Wp (fun k=>if B p=true then a k else b k) P:=Wp.itet (B_iff.2 hc) h
theorem Wp.itefB {ρ:Type} {P:ρ→Prop} {p:Prop} {a b:Nat→Option ρ} (hc:¬p) (h:Wp b P):Wp (fun k=>if B p=true then a k else b k) P:=Wp.itef (fun e=>hc (B_iff.1 e)) h
theorem qtB {ρ:Type} {P:ρ→Prop} {p:Prop} {a b:Nat→Option ρ} (h:Wp a P) (hc:p:=by first|exact Int.natCast_nonneg _|omega|assumption):Wp (fun k=>if B p=true then a k else b k) P:=Wp.itetB hc h
theorem qfB {ρ:Type} {P:ρ→Prop} {p:Prop} {a b:Nat→Option ρ} (h:Wp b P) (hc:¬p:=by first|exact Int.natCast_nonneg _|omega|assumption):Wp (fun k=>if B p=true then a k else b k) P:=Wp.itefB hc h
theorem qt {ρ:Type} {P:ρ→Prop} {c:Prop} {_:Decidable c} {a b:Nat→Option ρ} (h:Wp a P) (hc:c:=by first|exact Int.natCast_nonneg _|omega|assumption):Wp (fun k=>if c then a k else b k) P:=Wp.itet hc h
theorem qf {ρ:Type} {P:ρ→Prop} {c:Prop} {_:Decidable c} {a b:Nat→Option ρ} (h:Wp b P) (hc:¬c:=by first|exact Int.natCast_nonneg _|omega|assumption):Wp (fun k=>if c then a k else b k) P:=Wp.itef hc h
theorem ql {ρ:Type} {P:ρ→Prop} {c:Prop} {_:Decidable c} {a b:Nat→Option ρ} (h:Wp a P) (hc:c:=by simp only [List.length_append,List.length_cons,List.length_nil,List.length_take,List.length_drop,List.length_replicate];omega):Wp (fun k=>if c then a k else b k) P:=Wp.itet hc h
theorem Wp.allP {Φ:Nat→Prop} {P:Bool→Prop} (n:Nat) (hl:n≤1000000000) (L:Nat→Int→Option Bool)
  (step:∀(i:Nat),i<n→Nx i→(Φ i→Wp (fun k=>L k ((i:Int)+1)) P)→(¬Φ i→P false)→Wp (fun k=>L k (i:Int)) P)
  (stop:(∀i,i<n→Φ i)→Wp (fun k=>L k (n:Int)) P) (bad:(¬∀i,i<n→Φ i)→P false):Wp (fun k=>L k 0) P:=by
 refine Wp.cnt0 n hl L (fun i=>∀j,j<i→Φ j) (fun i hi hw h ih=>step i hi hw (fun hp=>ih (fun j hj=>?_)) (fun hp=>bad (fun h=>hp (h i hi)))) stop (fun j hj=>absurd hj (Nat.not_lt_zero j))
 by_cases e:j=i
 ·rw [e];exact hp
 ·exact h j (by omega)
theorem Wp.all {Φ:Nat→Prop} {Ψ:Prop} (n:Nat) (hl:n≤1000000000) (L:Nat→Int→Option Bool)
  (step:∀(i:Nat) (P:Bool→Prop),i<n→Nx i→(Φ i→Wp (fun k=>L k ((i:Int)+1)) P)→(¬Φ i→P false)→Wp (fun k=>L k (i:Int)) P)
  (stop:(∀i,i<n→Φ i)→Wp (fun k=>L k (n:Int)) (fun r=>r=B Ψ)):Ev (fun k=>L k 0) (B ((∀i,i<n→Φ i)∧Ψ)):=by
 refine Wp.ev (Wp.allP n hl L (fun i hi hw=>step i _ hi hw) (fun h=>(stop h).mono fun r hr=>?_) (fun h=>?_))
 ·rw [hr]
  exact B_congr ⟨fun x=>⟨h,x⟩,fun x=>x.2⟩
 ·rw [eqB]
  exact ⟨fun h=>absurd h (by decide),fun x=>absurd x.1 h⟩
noncomputable def fidx (Φ:Nat→Prop):Nat→Nat→Int
 | 0,_=>-1
 | d+1,i=>if B (Φ i)=true then (i:Int) else fidx Φ d (i+1)
theorem fidx_spec (Φ:Nat→Prop):∀d i,(fidx Φ d i= -1∧∀j,i≤j→j<i+d→¬Φ j)∨(∃j,i≤j∧j<i+d∧fidx Φ d i=(j:Int)∧Φ j∧∀z,i≤z→z<j→¬Φ z):=by
 intro d
 induction d with
 | zero=>intro i;exact .inl ⟨rfl,fun j h1 h2=>by omega⟩
 | succ d ih=>
  intro i
  rw [fidx]
  by_cases h:Φ i
  ·rw [if_pos (B_iff.2 h)]
   exact .inr ⟨i,by omega,by omega,rfl,h,fun z h1 h2=>by omega⟩
  ·rw [if_neg (fun e=>h (B_iff.1 e))]
   rcases ih (i+1) with ⟨h1,h2⟩ | ⟨j,h1,h2,h3,h4,h5⟩
   ·refine .inl ⟨h1,fun j a b=>?_⟩
    by_cases e:j=i
    ·rw [e];exact h
    ·exact h2 j (by omega) (by omega)
   ·refine .inr ⟨j,by omega,by omega,h3,h4,fun z a b=>?_⟩
    by_cases e:z=i
    ·rw [e];exact h
    ·exact h5 z (by omega) b
theorem fidx_ge {Φ:Nat→Prop} {n:Nat}:fidx Φ n 0≥0↔∃i,i<n∧Φ i:=by
 rcases fidx_spec Φ n 0 with ⟨h1,h2⟩ | ⟨j,h1,h2,h3,h4,h5⟩
 ·rw [h1]
  exact ⟨fun h=>absurd h (by decide),fun ⟨i,a,b⟩=>absurd b (h2 i (by omega) (by omega))⟩
 ·rw [h3]
  exact ⟨fun _=>⟨j,by omega,h4⟩,fun _=>by omega⟩
theorem Wp.find {ρ:Type} {Φ:Nat→Prop} (n:Nat) (hl:n≤1000000000) (L:Nat→Int→Option ρ) (ret:Int→ρ)
  (step:∀(i:Nat) (P:ρ→Prop),i<n→Nx i→(¬Φ i→Wp (fun k=>L k ((i:Int)+1)) P)→(Φ i→P (ret i))→Wp (fun k=>L k (i:Int)) P)
  (stop:Wp (fun k=>L k (n:Int)) (fun r=>r=ret (-1))):Ev (fun k=>L k 0) (ret (fidx Φ n 0)):=by
 refine Wp.ev (Wp.cnt0 n hl L (fun i=>fidx Φ n 0=fidx Φ (n - i) i) (fun i hi hw h ih=>step i _ hi hw (fun hp=>ih ?_) (fun hp=>?_)) (fun h=>stop.mono fun r hr=>?_) rfl)
 ·rw [h,show n - i=(n - (i+1))+1 from by omega,fidx,if_neg (fun e=>hp (B_iff.1 e))]
 ·rw [h,show n - i=(n - (i+1))+1 from by omega,fidx,if_pos (B_iff.2 hp)]
 ·rw [hr,h,Nat.sub_self,fidx]
theorem Wp.both {α β ρ:Type} {P:ρ→Prop} (l:List α) (z:α) (l':List β) (z':β) (hll:l.length=l'.length) (hl:l.length≤1000000000) (L:Nat→Int→Option ρ) (I:List α→List β→Prop)
  (step:∀(p:List α) (x:α) (q:List α) (p':List β) (x':β) (q':List β),l=p++x::q→l'=p'++x'::q'→p.length=p'.length→x∈l→x'∈l'→l.length=p.length+1+q.length→rdOf z l (p.length:Int)=x→rdOf z' l' (p.length:Int)=x'→Nx p.length→I p p'→(I (p++[x]) (p'++[x'])→Wp (fun k=>L k ((p.length:Int)+1)) P)→Wp (fun k=>L k (p.length:Int)) P)
  (stop:I l l'→Wp (fun k=>L k (l.length:Int)) P) (h0:I [] []):Wp (fun k=>L k 0) P:=by
 refine Wp.each0 l z hl L (fun p=>I p (l'.take p.length)) (fun p x q e m hn hr hw h ih=>?_) (fun h=>?_) h0
 ·have hp:p.length<l'.length:=by omega
  have e':l'=l'.take p.length++l'[p.length]::l'.drop (p.length+1):=by rw [←List.drop_eq_getElem_cons hp,List.take_append_drop]
  have hl2:(l'.take p.length).length=p.length:=by rw [List.length_take];omega
  refine step p x q (l'.take p.length) l'[p.length] (l'.drop (p.length+1)) e e' hl2.symm m (List.getElem_mem _) hn hr ?_ hw h (fun h'=>ih ?_)
  ·have:=rdOf_at z' (l'.take p.length) l'[p.length] (l'.drop (p.length+1))
   rw [←e',hl2] at this
   exact this
  ·rw [List.length_append,List.length_singleton,List.take_add_one,List.getElem?_eq_getElem hp]
   exact h'
 ·refine stop ?_
  rw [hll,List.take_length] at h
  exact h
def Fin_ {Y:Type} (P:Y→Prop):Prop:=∃L:List Y,∀y,P y→y∈L
def Dm {Y:Type} (G:Nat→(R:Type)→(Y→Option R)→Option R) (P:Y→Prop):Prop:=
 Fin_ P∧∃M,∀k,M≤k→∀(R:Type) (K:Y→Option R) (r:R),(∀y,P y→K y=some r)→G k R K=some r
theorem uniform {Y R:Type} {P:Y→Prop} {F:Nat→Y→Option R} {r:R} (hP:Fin_ P) (h:∀y,P y→∃M,∀k,M≤k→F k y=some r):∃M,∀k,M≤k→∀y,P y→F k y=some r:=by
 obtain ⟨L,hL⟩:=hP
 have key:∀L:List Y,∃M,∀k,M≤k→∀y∈L,P y→F k y=some r:=by
  intro L
  induction L with
  | nil=>exact ⟨0,fun k _ y hy=>by cases hy⟩
  | cons a L ih=>
   obtain ⟨M,hM⟩:=ih
   by_cases ha:P a
   ·obtain ⟨N,hN⟩:=h a ha
    refine ⟨max M N,fun k hk y hy py=>?_⟩
    rcases List.mem_cons.1 hy with rfl | hy
    ·exact hN k (by omega)
    ·exact hM k (by omega) y hy py
   ·refine ⟨M,fun k hk y hy py=>?_⟩
    rcases List.mem_cons.1 hy with rfl | hy
    ·exact absurd py ha
    ·exact hM k hk y hy py
 obtain ⟨M,hM⟩:=key L
 exact ⟨M,fun k hk y py=>hM k hk y (hL y py) py⟩
theorem Wp.rel {Y ρ:Type} {P:Y→Prop} {G:Nat→(R:Type)→(Y→Option R)→Option R} {F:Y→Nat→Option ρ} {r:ρ} (h:Dm G P) (k:∀y,P y→Wp (fun n=>F y n) (fun x=>x=r)):Wp (fun n=>G n ρ (fun y=>F y n)) (fun x=>x=r):=by
 obtain ⟨hP,M,hM⟩:=h
 obtain ⟨N,hN⟩:=uniform (F:=fun n y=>F y n) hP (fun y py=>(k y py).ev)
 exact ⟨r,⟨max M N,fun n hn=>hM n (by omega) _ _ r (fun y py=>hN n (by omega) y py)⟩,rfl⟩
theorem Dm.mono {Y:Type} {G:Nat→(R:Type)→(Y→Option R)→Option R} {P Q:Y→Prop} (h:Dm G P) (hQ:Fin_ Q) (k:∀y,P y→Q y):Dm G Q:=by
 obtain ⟨_,M,hM⟩:=h
 exact ⟨hQ,M,fun n hn R K r hK=>hM n hn R K r (fun y py=>hK y (k y py))⟩
theorem Dm.ret {Y:Type} {P:Y→Prop} (hP:Fin_ P) {y:Y} (h:P y):Dm (fun _ _ K=>K y) P:=⟨hP,0,fun _ _ _ _ _ hK=>hK y h⟩
theorem Dm.bindE {α Y:Type} {P:Y→Prop} {g:Nat→Option α} {G:α→Nat→(R:Type)→(Y→Option R)→Option R} {v:α} (h:Ev g v) (k:Dm (G v) P):Dm (fun n R K=>(g n).bind fun x=>G x n R K) P:=by
 obtain ⟨M,hM⟩:=h
 obtain ⟨hP,N,hN⟩:=k
 refine ⟨hP,max M N,fun n hn R K r hK=>?_⟩
 show (g n).bind _=_
 rw [hM n (by omega)]
 exact hN n (by omega) R K r hK
theorem Dm.bind {α Y:Type} {P:Y→Prop} {Q:α→Prop} {g:Nat→Option α} {G:α→Nat→(R:Type)→(Y→Option R)→Option R} (h:Wp g Q) (k:∀v,Q v→Dm (G v) P):Dm (fun n R K=>(g n).bind fun x=>G x n R K) P:=by
 obtain ⟨v,h,q⟩:=h;exact Dm.bindE h (k v q)
theorem Dm.rel {Y Z:Type} {P:Y→Prop} {Q:Z→Prop} {G:Nat→(R:Type)→(Y→Option R)→Option R} {F:Y→Nat→(R:Type)→(Z→Option R)→Option R} (hQ:Fin_ Q) (h:Dm G P) (k:∀y,P y→Dm (F y) Q):Dm (fun n R K=>G n R (fun y=>F y n R K)) Q:=by
 obtain ⟨hP,M,hM⟩:=h
 have:∃N,∀n,N≤n→∀y,P y→∀(R:Type) (K:Z→Option R) (r:R),(∀z,Q z→K z=some r)→F y n R K=some r:=by
  have:=uniform (R:=Unit) (F:=fun n y=>@ite _ (∀(R:Type) (K:Z→Option R) (r:R),(∀z,Q z→K z=some r)→F y n R K=some r) (Classical.propDecidable _) (some ()) none) (r:=()) hP (fun y py=>by
   obtain ⟨_,N,hN⟩:=k y py
   exact ⟨N,fun n hn=>if_pos (fun R K r hK=>hN n hn R K r hK)⟩)
  obtain ⟨N,hN⟩:=this
  refine ⟨N,fun n hn y py=>?_⟩
  have:=hN n hn y py
  by_cases hc:(∀(R:Type) (K:Z→Option R) (r:R),(∀z,Q z→K z=some r)→F y n R K=some r)
  ·exact hc
  ·rw [if_neg hc] at this;cases this
 obtain ⟨N,hN⟩:=this
 exact ⟨hQ,max M N,fun n hn R K r hK=>hM n (by omega) R _ r (fun y py=>hN n (by omega) y py R K r hK)⟩
theorem Dm.ite {Y:Type} {P:Y→Prop} {c:Prop} {_:Decidable c} {a b:Nat→(R:Type)→(Y→Option R)→Option R} (h:c→Dm a P) (k:¬c→Dm b P):Dm (fun n R K=>if c then a n R K else b n R K) P:=by
 by_cases hc:c
 ·have:=h hc;simp only [if_pos hc];exact this
 ·have:=k hc;simp only [if_neg hc];exact this
theorem Dm.itet {Y:Type} {P:Y→Prop} {c:Prop} {_:Decidable c} {a b:Nat→(R:Type)→(Y→Option R)→Option R} (hc:c) (h:Dm a P):Dm (fun n R K=>if c then a n R K else b n R K) P:=by simp only [if_pos hc];exact h
theorem relB_dm {Y:Type} {P:Y→Prop} (hP:Fin_ P) (hn:∃y,P y):Dm (fun _ R K=>relB P K) P:=by
 refine ⟨hP,0,fun n _ R K r hK=>?_⟩
 have h:∃r,∀y,P y→K y=some r:=⟨r,hK⟩
 show relB P K=some r
 unfold relB
 rw [dif_pos h]
 obtain ⟨y,py⟩:=hn
 rw [←h.choose_spec y py]
 exact hK y py
theorem tEta (t:I_Term):(⟨t.f0,t.f1,t.f2⟩:I_Term)=t:=by cases t;rfl
mutual
def sz:I_Term→Nat
 | ⟨_,_,l⟩=>szs l+1
def szs:List I_Term→Nat
 | []=>0
 | t::l=>sz t+szs l
end
theorem sz_eq (t:I_Term):sz t=szs t.f2+1:=by cases t;rw [sz]
theorem szs_mem {l:List I_Term} {x:I_Term} (h:x∈l):sz x≤szs l:=by
 induction l with
 | nil=>cases h
 | cons a l ih=>
  rw [szs]
  rcases List.mem_cons.1 h with rfl | h
  ·omega
  ·have:=ih h;omega
theorem szs_append (a b:List I_Term):szs (a++b)=szs a+szs b:=by
 induction a with
 | nil=>simp [szs]
 | cons x a ih=>rw [List.cons_append,szs,szs,ih];omega
theorem szs_len (l:List I_Term):l.length≤szs l:=by
 induction l with
 | nil=>simp
 | cons x l ih=>rw [List.length_cons,szs,sz_eq];omega
theorem sz_kid {t x:I_Term} (h:x∈t.f2):sz x<sz t:=by rw [sz_eq t];have:=szs_mem h;omega
theorem sz_kids (t:I_Term):t.f2.length<sz t:=by rw [sz_eq t];have:=szs_len t.f2;omega
theorem tInd {P:I_Term→Prop} (h:∀t,(∀x∈t.f2,P x)→P t) (t:I_Term):P t:=by
 have key:∀n t,sz t≤n→P t:=by
  intro n
  induction n with
  | zero=>intro t ht;rw [sz_eq] at ht;omega
  | succ n ih=>intro t ht;exact h t (fun x hx=>ih x (by have:=sz_kid hx;omega))
 exact key _ t (Nat.le_refl _)
mutual
def cmpT:I_Term→I_Term→Ordering
 | ⟨f,v,l⟩,⟨f',v',l'⟩=>(compare f f').then ((compare v v').then ((compare l.length l'.length).then (cmpTs l l')))
def cmpTs:List I_Term→List I_Term→Ordering
 | [],_=>.eq
 | _::_,[]=>.eq
 | t::l,t'::l'=>(cmpT t t').then (cmpTs l l')
end
theorem cmpT_eq (a b:I_Term):cmpT a b=(compare a.f0 b.f0).then ((compare a.f1 b.f1).then ((compare a.f2.length b.f2.length).then (cmpTs a.f2 b.f2))):=by
 cases a;cases b;rw [cmpT]
theorem cmpI_refl (a:Int):compare a a=.eq:=by rw [Int.compare_eq_eq]
theorem cmpT_refl (a:I_Term):cmpT a a=.eq:=by
 induction a using tInd with
 | h t ih=>
  have:∀l:List I_Term,(∀x∈l,cmpT x x=.eq)→cmpTs l l=.eq:=by
   intro l
   induction l with
   | nil=>intro _;rw [cmpTs]
   | cons x l ihl=>intro h;rw [cmpTs,h x (by simp),ihl (fun y hy=>h y (by simp [hy]))];rfl
  rw [cmpT_eq,cmpI_refl,cmpI_refl,this _ ih,Nat.compare_eq_eq.2 rfl];rfl
theorem cmpTs_pre (p l l':List I_Term):cmpTs (p++l) (p++l')=cmpTs l l':=by
 induction p with
 | nil=>rfl
 | cons x p ih=>rw [List.cons_append,List.cons_append,cmpTs,cmpT_refl,ih];rfl
theorem then_eq {a b:Ordering}:a.then b=.eq↔a=.eq∧b=.eq:=by cases a <;> simp [Ordering.then]
theorem cmpT_same {a b:I_Term}:cmpT a b=.eq↔a=b:=by
 constructor
 ·induction a using tInd generalizing b with
  | h t ih=>
   intro h
   rw [cmpT_eq,then_eq,then_eq,then_eq,Int.compare_eq_eq,Int.compare_eq_eq,Nat.compare_eq_eq] at h
   obtain ⟨h0,h1,h2,h3⟩:=h
   have:∀l l':List I_Term,(∀x∈l,∀{b},cmpT x b=.eq→x=b)→l.length=l'.length→cmpTs l l'=.eq→l=l':=by
    intro l
    induction l with
    | nil=>intro l' _ h _;exact (List.length_eq_zero_iff.1 h.symm).symm
    | cons x l ihl=>
     intro l' hx hl h
     cases l' with
     | nil=>simp at hl
     | cons y l'=>
      rw [cmpTs,then_eq] at h
      rw [hx x (by simp) h.1,ihl l' (fun z hz=>hx z (by simp [hz])) (by simpa using hl) h.2]
   have h4:=this _ _ ih h2 h3
   cases t;cases b;simp_all
 ·rintro rfl;exact cmpT_refl a
noncomputable instance:DecidableEq I_Term:=fun a b=>if h:cmpT a b=.eq then isTrue (cmpT_same.1 h) else isFalse (fun e=>h (cmpT_same.2 e))
def ordI:Ordering→Int
 | .lt=>-1
 | .eq=>0
 | .gt=>1
def bef (a b:I_Term):Bool:=cmpT a b==.lt
theorem impl_from_ev (a b c:Int):Ev (fun _=>impl_from.f a b c) (B (b≤a∧a≤c)):=by
 refine Wp.ev ?_
 unfold impl_from.f
 repeat' (first|(with_reducible first|refine qtB ?_|refine qfB ?_|refine qt ?_|refine qf ?_)|(simp only [decide_eq_true_eq])|(with_reducible refine Wp.ret ?_)|(with_reducible refine ql ?_)|(with_reducible refine Wp.iteB (fun hc=>?_) (fun hc=>?_))|(with_reducible refine Wp.ite (fun hc=>?_) (fun hc=>?_)))
 all_goals (rw [eqB];simp;omega)
theorem spec_l1In_ev (a b c:Int):Ev (fun _=>spec_l1In.f a b c) (B (b≤a∧a≤c)):=by
 refine Wp.ev ?_
 unfold spec_l1In.f
 repeat' (first|(with_reducible first|refine qtB ?_|refine qfB ?_|refine qt ?_|refine qf ?_)|(simp only [decide_eq_true_eq])|(with_reducible refine Wp.ret ?_)|(with_reducible refine ql ?_)|(with_reducible refine Wp.iteB (fun hc=>?_) (fun hc=>?_))|(with_reducible refine Wp.ite (fun hc=>?_) (fun hc=>?_)))
 all_goals (rw [eqB];simp;omega)
theorem impl_isSmall_ev (a:Int):Ev (fun _=>fQ82.f a) (B (97≤a∧a≤122)):=by
 refine Wp.ev ?_
 unfold fQ82.f
 repeat' (first|(with_reducible first|refine qtB ?_|refine qfB ?_|refine qt ?_|refine qf ?_)|(simp only [decide_eq_true_eq])|(with_reducible refine Wp.ret ?_)|(with_reducible refine ql ?_)|(with_reducible refine Wp.iteB (fun hc=>?_) (fun hc=>?_))|(with_reducible refine Wp.ite (fun hc=>?_) (fun hc=>?_)))
 all_goals (rw [eqB];simp;omega)
theorem impl_isDigit_ev (a:Int):Ev (fun _=>fQ86.f a) (B (48≤a∧a≤57)):=by
 refine Wp.ev ?_
 unfold fQ86.f
 repeat' (first|(with_reducible first|refine qtB ?_|refine qfB ?_|refine qt ?_|refine qf ?_)|(simp only [decide_eq_true_eq])|(with_reducible refine Wp.ret ?_)|(with_reducible refine ql ?_)|(with_reducible refine Wp.iteB (fun hc=>?_) (fun hc=>?_))|(with_reducible refine Wp.ite (fun hc=>?_) (fun hc=>?_)))
 all_goals (rw [eqB];simp;omega)
def ChOk (s:ByteArray) (i:Nat):Prop:=(97≤bt s i∧bt s i≤122)∨(0<i∧48≤bt s i∧bt s i≤57)
def NameOk (s:ByteArray):Prop:=(∀i,i<s.size→ChOk s i)∧(1≤(s.size:Int)∧(s.size:Int)≤8)
theorem spec_NameOk_ev (s:ByteArray) (h:s.size≤1000000000):Ev (fun k=>fQ56.f k s) (B (NameOk s)):=by
 unfold fQ56.f
 refine Wp.all s.size h (fun k i=>fQ56.l0 k s i) ?_ ?_
 ·intro i P hi hw hT hF
  refine Wp.step (fun k=>by rw [fQ56.l0]) ?_
  simp only [hw.e]
  repeat' (first|(with_reducible first|refine qtB ?_|refine qfB ?_|refine qt ?_|refine qf ?_)|(simp only [decide_eq_true_eq])|(with_reducible refine Wp.ret ?_)|(with_reducible refine ql ?_)|(with_reducible refine Wp.iteB (fun hc=>?_) (fun hc=>?_))|(with_reducible refine Wp.ite (fun hc=>?_) (fun hc=>?_)))
  all_goals first | exact hT (by unfold ChOk;omega) | exact hF (by unfold ChOk;omega)
 ·intro _
  refine Wp.step (fun k=>by rw [fQ56.l0]) ?_
  repeat' (first|(with_reducible first|refine qtB ?_|refine qfB ?_|refine qt ?_|refine qf ?_)|(with_reducible refine Wp.bindE (spec_l1In_ev _ _ _) ?_)|(simp only [decide_eq_true_eq])|(with_reducible refine Wp.ret ?_)|(with_reducible refine ql ?_)|(with_reducible refine Wp.iteB (fun hc=>?_) (fun hc=>?_))|(with_reducible refine Wp.ite (fun hc=>?_) (fun hc=>?_)))
theorem impl_NameOk_ev (s:ByteArray) (h:s.size≤1000000000):Ev (fun k=>fQ57.f k s) (B (NameOk s)):=by
 unfold fQ57.f
 refine (Wp.all (Φ:=fun i=>(97≤bt s i∧bt s i≤122)∨(48≤bt s i∧bt s i≤57)) (Ψ:=(1≤(s.size:Int)∧(s.size:Int)≤8)∧(97≤bt s 0∧bt s 0≤122)) s.size h (fun k i=>fQ57.l0 k s s.size i) ?_ ?_).val (B_congr ?_)
 ·intro i P hi hw hT hF
  refine Wp.step (fun k=>by rw [fQ57.l0]) ?_
  simp only [hw.e]
  repeat' (first|(with_reducible first|refine qtB ?_|refine qfB ?_|refine qt ?_|refine qf ?_)|(with_reducible refine Wp.bindE (impl_isSmall_ev _) ?_)|(with_reducible refine Wp.bindE (impl_isDigit_ev _) ?_)|(simp only [decide_eq_true_eq])|(with_reducible refine Wp.ret ?_)|(with_reducible refine ql ?_)|(with_reducible refine Wp.iteB (fun hc=>?_) (fun hc=>?_))|(with_reducible refine Wp.ite (fun hc=>?_) (fun hc=>?_)))
  all_goals first | exact hT (by omega) | exact hF (by omega)
 ·intro _
  refine Wp.step (fun k=>by rw [fQ57.l0]) ?_
  repeat' (first|(with_reducible first|refine qtB ?_|refine qfB ?_|refine qt ?_|refine qf ?_)|(with_reducible refine Wp.bindE (impl_from_ev _ _ _) ?_)|(with_reducible refine Wp.bindE (impl_isSmall_ev _) ?_)|(simp only [decide_eq_true_eq])|(with_reducible refine Wp.ret ?_)|(with_reducible refine ql ?_)|(with_reducible refine Wp.iteB (fun hc=>?_) (fun hc=>?_))|(with_reducible refine Wp.ite (fun hc=>?_) (fun hc=>?_)))
  all_goals (rw [eqB];simp [B_iff];try omega)
 ·unfold NameOk ChOk
  constructor
  ·rintro ⟨h1,h2,h3⟩
   refine ⟨fun i hi=>?_,h2⟩
   by_cases e:i=0
   ·rw [e];exact .inl h3
   ·rcases h1 i hi with h | h
    ·exact .inl h
    ·exact .inr ⟨by omega,h⟩
  ·rintro ⟨h1,h2⟩
   refine ⟨fun i hi=>?_,h2,?_⟩
   ·rcases h1 i hi with h | h
    ·exact .inl h
    ·exact .inr h.2
   ·rcases h1 0 (by omega) with h | h
    ·exact h
    ·omega
noncomputable def symOf (s:List I_Sym) (nm:ByteArray):Int:=fidx (fun i=>(rd_I_Sym s i).f0=nm) s.length 0
theorem spec_SymOf_ev (s:List I_Sym) (nm:ByteArray) (h:s.length≤1000000000):Ev (fun k=>fQ66.f k s nm) (symOf s nm):=by
 unfold fQ66.f
 refine Wp.find s.length h (fun k i=>fQ66.l0 k s nm i) (fun i=>i) ?_ ?_
 ·intro i P hi hw hT hF
  refine Wp.step (fun k=>by rw [fQ66.l0]) ?_
  simp only [hw.e]
  repeat' (first|(with_reducible first|refine qtB ?_|refine qfB ?_|refine qt ?_|refine qf ?_)|(simp only [decide_eq_true_eq])|(with_reducible refine Wp.ret ?_)|(with_reducible refine ql ?_)|(with_reducible refine Wp.iteB (fun hc=>?_) (fun hc=>?_))|(with_reducible refine Wp.ite (fun hc=>?_) (fun hc=>?_)))
  all_goals first | exact hF (by assumption) | exact hT (by assumption)
 ·refine Wp.step (fun k=>by rw [fQ66.l0]) ?_
  repeat' (first|(with_reducible first|refine qtB ?_|refine qfB ?_|refine qt ?_|refine qf ?_)|(simp only [decide_eq_true_eq])|(with_reducible refine Wp.ret ?_)|(with_reducible refine ql ?_)|(with_reducible refine Wp.iteB (fun hc=>?_) (fun hc=>?_))|(with_reducible refine Wp.ite (fun hc=>?_) (fun hc=>?_)))
  all_goals rfl
theorem impl_SymOf_ev (s:List I_Sym) (nm:ByteArray) (h:s.length≤1000000000):Ev (fun k=>fQ90.f k s nm) (symOf s nm):=by
 have key:Ev (fun k=>fQ1.f k s nm) (symOf s nm,nm):=by
  unfold fQ1.f
  refine Wp.find s.length h (fun k i=>fQ1.l0 k s s.length i nm) (fun i=>(i,nm)) ?_ ?_
  ·intro i P hi hw hT hF
   refine Wp.step (fun k=>by rw [fQ1.l0]) ?_
   simp only [hw.e,fQ63.f,Option.bind_some]
   repeat' (first|(with_reducible first|refine qtB ?_|refine qfB ?_|refine qt ?_|refine qf ?_)|(simp only [decide_eq_true_eq])|(with_reducible refine Wp.ret ?_)|(with_reducible refine ql ?_)|(with_reducible refine Wp.iteB (fun hc=>?_) (fun hc=>?_))|(with_reducible refine Wp.ite (fun hc=>?_) (fun hc=>?_)))
   all_goals first | exact hF (by assumption) | exact hT (by assumption)
  ·refine Wp.step (fun k=>by rw [fQ1.l0]) ?_
   repeat' (first|(with_reducible first|refine qtB ?_|refine qfB ?_|refine qt ?_|refine qf ?_)|(simp only [decide_eq_true_eq])|(with_reducible refine Wp.ret ?_)|(with_reducible refine ql ?_)|(with_reducible refine Wp.iteB (fun hc=>?_) (fun hc=>?_))|(with_reducible refine Wp.ite (fun hc=>?_) (fun hc=>?_)))
   all_goals rfl
 unfold fQ90.f
 exact key.bind Ev.ret
def SymRow (s:List I_Sym) (i:Nat):Prop:=NameOk (rd_I_Sym s i).f0∧symOf s (rd_I_Sym s i).f0=(i:Int)∧(0≤(rd_I_Sym s i).f1∧(rd_I_Sym s i).f1≤3)∧((rd_I_Sym s i).f2=true→(rd_I_Sym s i).f1=2)
def SigOk (s:List I_Sym):Prop:=(∀i,i<s.length→SymRow s i)∧(1≤(s.length:Int)∧(s.length:Int)≤8)∧(rd_I_Sym s 0).f0=⟨#[116,116]⟩∧(rd_I_Sym s 0).f1=0
def Names (s:List I_Sym):Prop:=s.length≤1000000000∧∀x∈s,x.f0.size≤1000000000
theorem rdSym_mem {s:List I_Sym} {i:Int} (h0:0≤i) (h1:i<(s.length:Int)):rd_I_Sym s i∈s:=rdOf_mem (z:=zI_Sym) h0 h1
theorem impl_SigOk_ev (s:List I_Sym) (h:Names s):Ev (fun k=>fQ58.f k s) (B (SigOk s)):=by
 unfold fQ58.f
 refine Wp.all s.length h.1 (fun k i=>fQ58.l0 k s s s.length i) ?_ ?_
 ·intro i P hi hw hT hF
  refine Wp.step (fun k=>by rw [fQ58.l0]) ?_
  have hl:=h.1
  have hm:=h.2 _ (rdSym_mem (s:=s) (i:=i) (by omega) (by omega))
  simp only [hw.e]
  repeat' (first|(with_reducible first|refine qtB ?_|refine qfB ?_|refine qt ?_|refine qf ?_)|(with_reducible refine Wp.bindE (impl_NameOk_ev _ hm) ?_)|(with_reducible refine Wp.bindE (impl_SymOf_ev _ _ hl) ?_)|(with_reducible refine Wp.bindE (impl_from_ev _ _ _) ?_)|(simp only [decide_eq_true_eq])|(with_reducible refine Wp.ret ?_)|(with_reducible refine ql ?_)|(with_reducible refine Wp.iteB (fun hc=>?_) (fun hc=>?_))|(with_reducible refine Wp.ite (fun hc=>?_) (fun hc=>?_)))
  all_goals first | exact hT (by unfold SymRow;grind) | exact hF (by unfold SymRow;grind)
 ·intro hall
  refine Wp.step (fun k=>by rw [fQ58.l0]) ?_
  repeat' (first|(with_reducible first|refine qtB ?_|refine qfB ?_|refine qt ?_|refine qf ?_)|(with_reducible refine Wp.bindE (impl_from_ev _ _ _) ?_)|(simp only [decide_eq_true_eq])|(with_reducible refine Wp.ret ?_)|(with_reducible refine ql ?_)|(with_reducible refine Wp.iteB (fun hc=>?_) (fun hc=>?_))|(with_reducible refine Wp.ite (fun hc=>?_) (fun hc=>?_)))
  all_goals (rw [eqB];grind)
theorem spec_SigOk_ev (s:List I_Sym) (h:Names s):Ev (fun k=>fQ62.f k s) (B (SigOk s)):=by
 unfold fQ62.f
 refine Wp.all s.length h.1 (fun k i=>fQ62.l0 k s i) ?_ ?_
 ·intro i P hi hw hT hF
  refine Wp.step (fun k=>by rw [fQ62.l0]) ?_
  have hl:=h.1
  have hm:=h.2 _ (rdSym_mem (s:=s) (i:=i) (by omega) (by omega))
  simp only [hw.e]
  repeat' (first|(with_reducible first|refine qtB ?_|refine qfB ?_|refine qt ?_|refine qf ?_)|(with_reducible refine Wp.bindE (spec_NameOk_ev _ hm) ?_)|(with_reducible refine Wp.bindE (spec_SymOf_ev _ _ hl) ?_)|(with_reducible refine Wp.bindE (spec_l1In_ev _ _ _) ?_)|(simp only [decide_eq_true_eq])|(with_reducible refine Wp.ret ?_)|(with_reducible refine ql ?_)|(with_reducible refine Wp.iteB (fun hc=>?_) (fun hc=>?_))|(with_reducible refine Wp.ite (fun hc=>?_) (fun hc=>?_)))
  all_goals first | exact hT (by unfold SymRow;grind) | exact hF (by unfold SymRow;grind)
 ·intro hall
  refine Wp.step (fun k=>by rw [fQ62.l0]) ?_
  repeat' (first|(with_reducible first|refine qtB ?_|refine qfB ?_|refine qt ?_|refine qf ?_)|(with_reducible refine Wp.bindE (spec_l1In_ev _ _ _) ?_)|(simp only [decide_eq_true_eq])|(with_reducible refine Wp.ret ?_)|(with_reducible refine ql ?_)|(with_reducible refine Wp.iteB (fun hc=>?_) (fun hc=>?_))|(with_reducible refine Wp.ite (fun hc=>?_) (fun hc=>?_)))
  ·have h0:=(hall 0 (by omega)).2.2.2
   rw [eqB]
   simp only [Bool.and_eq_true,decide_eq_true_eq,Bool.and_true]
   constructor
   ·rintro ⟨a,b,c⟩;exact ⟨by assumption,a,b⟩
   ·rintro ⟨a,b,c⟩
    refine ⟨b,c,?_⟩
    rw [Bool.eq_false_iff]
    intro e
    have:=h0 e
    have e0:(rd_I_Sym s ((0:Nat):Int)).f1=0:=c
    omega
  ·rw [eqB];grind
theorem z4 {z:Nat} (h:1≤z∧z≤4):z=1∨z=2∨z=3∨z=4:=by omega
theorem impl_placesOf_ev (z:Nat) (hz:1≤z∧z≤4) (a:Int) (ha:0≤a∧a≤3):Ev (fun k=>fQ48.f k z a) ((z ^ a.toNat:Nat):Int):=by
 obtain ⟨a,rfl⟩:∃n:Nat,a=n:=⟨a.toNat,by omega⟩
 unfold fQ48.f
 refine Wp.ev (Wp.cnt1 a (by omega) (fun k i s=>fQ48.l0 k z s a i) (fun i s=>s=((z ^ i:Nat):Int)) ?_ ?_ 1 rfl)
 ·intro i s hi hw hI ih
  refine Wp.step (fun k=>by rw [fQ48.l0]) ?_
  have hm:wrap64 (s*z)=((z ^ (i+1):Nat):Int):=by
   subst hI
   have:i=0∨i=1∨i=2:=by omega
   rcases z4 hz with rfl | rfl | rfl | rfl <;> rcases this with rfl | rfl | rfl <;> decide+kernel
  simp only [hw.e,hm]
  repeat' (first|(with_reducible first|refine qtB ?_|refine qfB ?_|refine qt ?_|refine qf ?_)|(exact ih _ rfl)|(simp only [decide_eq_true_eq])|(with_reducible refine Wp.ret ?_)|(with_reducible refine ql ?_)|(with_reducible refine Wp.iteB (fun hc=>?_) (fun hc=>?_))|(with_reducible refine Wp.ite (fun hc=>?_) (fun hc=>?_)))
 ·intro s hI
  refine Wp.step (fun k=>by rw [fQ48.l0]) ?_
  repeat' (first|(with_reducible first|refine qtB ?_|refine qfB ?_|refine qt ?_|refine qf ?_)|(simp only [decide_eq_true_eq])|(with_reducible refine Wp.ret ?_)|(with_reducible refine ql ?_)|(with_reducible refine Wp.iteB (fun hc=>?_) (fun hc=>?_))|(with_reducible refine Wp.ite (fun hc=>?_) (fun hc=>?_)))
  simpa using hI
def InR (z:Nat) (t:List Int):Prop:=∀x∈t,0≤x∧x<(z:Int)
def opw (z:Int) (t:List Int) (a b:Int):Int:=rd t (a+z*b)
def Sq (z:Nat) (t:List Int):Prop:=(1≤z∧z≤4)∧t.length=z*z∧InR z t
theorem rd_mem {t:List Int} {i:Int} (h0:0≤i) (h1:i<(t.length:Int)):rd t i∈t:=rdOf_mem (z:=0) h0 h1
theorem opidx {z:Nat} {t:List Int} (h:Sq z t) {a b:Int} (ha:0≤a∧a<z) (hb:0≤b∧b<z):wrap64 (z*b)=z*b∧wrap64 (a+z*b)=a+z*b∧0≤a+z*b∧a+z*b<(t.length:Int):=by
 obtain ⟨hz,hl,_⟩:=h
 rw [hl]
 rcases z4 hz with rfl | rfl | rfl | rfl <;> refine ⟨wrap_id (by omega) (by omega),wrap_id (by omega) (by omega),by omega,by omega⟩
theorem opw_rng {z:Nat} {t:List Int} (h:Sq z t) {a b:Int} (ha:0≤a∧a<z) (hb:0≤b∧b<z):0≤opw z t a b∧opw z t a b<z:=by
 obtain ⟨_,_,h2,h3⟩:=opidx h ha hb
 exact h.2.2 _ (rd_mem h2 h3)
def Indiff (z:Nat) (t:List Int):Prop:=∀a:Nat,a<z→∀b:Nat,b<z→∀c:Nat,c<z→opw z t a b=opw z t b a∧opw z t (opw z t a b) c=opw z t a (opw z t b c)
theorem indiff1_ev {z:Nat} {t:List Int} (h:Sq z t) {a b:Int} (ha:0≤a∧a<z) (hb:0≤b∧b<z):Ev (fun _=>fQ22.f a b t z) (opw z t a b,t,(z:Int)):=by
 obtain ⟨h0,h1,h2,h3⟩:=opidx h ha hb
 refine Wp.ev ?_
 unfold fQ22.f
 simp only [h0,h1]
 repeat' (first|(with_reducible first|refine qtB ?_|refine qfB ?_|refine qt ?_|refine qf ?_)|(simp only [decide_eq_true_eq])|(with_reducible refine Wp.ret ?_)|(with_reducible refine ql ?_)|(with_reducible refine Wp.iteB (fun hc=>?_) (fun hc=>?_))|(with_reducible refine Wp.ite (fun hc=>?_) (fun hc=>?_)))
 rfl
theorem impl_indifferent_ev {z:Nat} {t:List Int} (h:Sq z t):Ev (fun k=>fQ12.f k z t) (B (Indiff z t)):=by
 have hz:z≤1000000000:=by have:=h.1.2;omega
 unfold fQ12.f
 refine (Wp.all (Φ:=fun a=>∀b:Nat,b<z→∀c:Nat,c<z→opw z t a b=opw z t b a∧opw z t (opw z t a b) c=opw z t a (opw z t b c)) (Ψ:=True) z hz (fun k i=>fQ12.l0 k z i z t) ?_ ?_).val (B_congr (and_true _▸Iff.rfl))
 ·intro a P hi hw hT hF
  refine Wp.step (fun k=>by rw [fQ12.l0]) ?_
  refine Wp.itet (by omega) ?_
  refine Wp.allP (Φ:=fun b=>∀c:Nat,c<z→opw z t a b=opw z t b a∧opw z t (opw z t a b) c=opw z t a (opw z t b c)) z hz (fun k i=>fQ12.l1 k a z a z i z t) ?_ ?_ hF
  ·intro b hj hwb hT2 hF2
   refine Wp.step (fun k=>by rw [fQ12.l1]) ?_
   refine Wp.itet (by omega) ?_
   refine Wp.allP (Φ:=fun c=>opw z t a b=opw z t b a∧opw z t (opw z t a b) c=opw z t a (opw z t b c)) z hz (fun k i=>fQ12.l2 k a b z a z b z i z t) ?_ ?_ hF2
   ·intro c hc hwc hT3 hF3
    refine Wp.step (fun k=>by rw [fQ12.l2]) ?_
    have rab:=opw_rng h (a:=a) (b:=b) (by omega) (by omega)
    have rbc:=opw_rng h (a:=b) (b:=c) (by omega) (by omega)
    simp only [hwc.e]
    repeat' (first|(with_reducible first|refine qtB ?_|refine qfB ?_|refine qt ?_|refine qf ?_)|(with_reducible refine Wp.bindE (indiff1_ev h (by omega) (by omega)) ?_)|(exact hT3 (by simp_all))|(exact hF3 (by simp_all))|(simp only [decide_eq_true_eq])|(with_reducible refine Wp.ret ?_)|(with_reducible refine ql ?_)|(with_reducible refine Wp.iteB (fun hc=>?_) (fun hc=>?_))|(with_reducible refine Wp.ite (fun hc=>?_) (fun hc=>?_)))
    all_goals first | exact hT3 (by simp_all) | exact hF3 (by simp_all)
   ·intro hall
    refine Wp.step (fun k=>by rw [fQ12.l2]) ?_
    simp only [hwb.e]
    refine Wp.itef (by omega) (hT2 hall)
  ·intro hall
   refine Wp.step (fun k=>by rw [fQ12.l1]) ?_
   simp only [hw.e]
   refine Wp.itef (by omega) (hT hall)
 ·intro _
  refine Wp.step (fun k=>by rw [fQ12.l0]) ?_
  refine Wp.itef (by omega) (Wp.ret ?_)
  rw [eqB];simp
theorem contains_ev (z:Int) (T:List (List Int)) (t:List Int) (hl:t.length≤1000000000) (hz:1≤z∧z≤4):Ev (fun k=>fQ13.f k t z T) (B (∃i,i<t.length∧¬(0≤rd t i∧rd t i≤z - 1)),z,T):=by
 have hw1:wrap64 (z - 1)=z - 1:=wrap_id (by omega) (by omega)
 have key:Ev (fun k=>fQ2.f k t z T) (fidx (fun i=>¬(0≤rd t i∧rd t i≤z - 1)) t.length 0,z,T):=by
  unfold fQ2.f
  refine Wp.find t.length hl (fun k i=>fQ2.l0 k t t.length i z T) (fun i=>(i,z,T)) ?_ ?_
  ·intro i P hi hw hT hF
   refine Wp.step (fun k=>by rw [fQ2.l0]) ?_
   have hc:Ev (fun _=>fQ41.f (rd t i) z T) (B (¬(0≤rd t i∧rd t i≤z - 1)),z,T):=by
    unfold fQ41.f
    rw [hw1]
    refine ((impl_from_ev _ _ _).bind Ev.ret).val ?_
    rw [not_B]
   simp only [hw.e]
   repeat' (first|(with_reducible first|refine qtB ?_|refine qfB ?_|refine qt ?_|refine qf ?_)|(with_reducible refine Wp.bindE (hc) ?_)|(simp only [decide_eq_true_eq])|(with_reducible refine Wp.ret ?_)|(with_reducible refine ql ?_)|(with_reducible refine Wp.iteB (fun hc=>?_) (fun hc=>?_))|(with_reducible refine Wp.ite (fun hc=>?_) (fun hc=>?_)))
   all_goals first | exact hF (by assumption) | exact hT (by assumption)
  ·refine Wp.step (fun k=>by rw [fQ2.l0]) ?_
   repeat' (first|(with_reducible first|refine qtB ?_|refine qfB ?_|refine qt ?_|refine qf ?_)|(simp only [decide_eq_true_eq])|(with_reducible refine Wp.ret ?_)|(with_reducible refine ql ?_)|(with_reducible refine Wp.iteB (fun hc=>?_) (fun hc=>?_))|(with_reducible refine Wp.ite (fun hc=>?_) (fun hc=>?_)))
   all_goals rfl
 unfold fQ13.f
 refine (key.bind Ev.ret).val ?_
 rw [dec_B,B_congr fidx_ge]
def RowOk (s:List I_Sym) (z:Nat) (T:List (List Int)) (i:Nat):Prop:=(rd_Ls_i64 T i).length=z ^ (rd_I_Sym s i).f1.toNat∧InR z (rd_Ls_i64 T i)∧((rd_I_Sym s i).f2=true→Indiff z (rd_Ls_i64 T i))
def WorldOk (s:List I_Sym) (z:Nat) (T:List (List Int)):Prop:=SigOk s∧(1≤z∧z≤4)∧T.length=s.length∧∀i,i<s.length→RowOk s z T i
def Rows (T:List (List Int)):Prop:=∀x∈T,x.length≤1000000000
theorem rdRow_mem {T:List (List Int)} {i:Int} (h0:0≤i) (h1:i<(T.length:Int)):rd_Ls_i64 T i∈T:=rdOf_mem (z:=[]) h0 h1
theorem inR_rd {z:Nat} {t:List Int}:InR z t↔¬∃i,i<t.length∧¬(0≤rd t i∧rd t i≤(z:Int) - 1):=by
 constructor
 ·rintro h ⟨i,hi,hn⟩
  have:=h _ (rd_mem (t:=t) (i:=i) (by omega) (by omega))
  omega
 ·intro h x hx
  obtain ⟨i,hi,rfl⟩:=List.getElem_of_mem hx
  have e:rd t i=t[i]:=by
   show t.getD i 0=_
   rw [List.getD_eq_getElem?_getD,List.getElem?_eq_getElem hi];rfl
  rcases Classical.em (0≤rd t i∧rd t i≤(z:Int) - 1) with h1 | h1
  ·rw [e] at h1;omega
  ·exact absurd ⟨i,hi,h1⟩ h
theorem impl_WorldOk_ev (s:List I_Sym) (z:Int) (T:List (List Int)) (hs:Names s) (hT:Rows T):Ev (fun k=>fQ38.f k s z T) (B (0≤z∧WorldOk s z.toNat T)):=by
 refine Wp.ev ?_
 unfold fQ38.f
 repeat' (first|(with_reducible first|refine qtB ?_|refine qfB ?_|refine qt ?_|refine qf ?_)|(with_reducible refine Wp.bindE (impl_SigOk_ev s hs) ?_)|(with_reducible refine Wp.bindE (impl_from_ev _ _ _) ?_)|(simp only [decide_eq_true_eq])|(with_reducible refine Wp.ret ?_)|(with_reducible refine ql ?_)|(with_reducible refine Wp.iteB (fun hc=>?_) (fun hc=>?_))|(with_reducible refine Wp.ite (fun hc=>?_) (fun hc=>?_)))
 ·rename_i h1 h2
  obtain ⟨z,rfl⟩:∃n:Nat,z=n:=⟨z.toNat,by omega⟩
  refine ((Wp.all (Φ:=fun i=>RowOk s z T i) (Ψ:=True) s.length hs.1 (fun k i=>fQ38.l0 k s s.length i z T) ?_ ?_).val ?_).wp rfl
  ·intro i P hi hw hT' hF
   refine Wp.step (fun k=>by rw [fQ38.l0]) ?_
   have hrow:=hT _ (rdRow_mem (T:=T) (i:=i) (by omega) (by omega))
   have sig:=h1.1 i hi
   have sq:(rd_Ls_i64 T i).length=z ^ (rd_I_Sym s i).f1.toNat→InR z (rd_Ls_i64 T i)→(rd_I_Sym s i).f2=true→Sq z (rd_Ls_i64 T i):=by
    intro a b c
    refine ⟨by omega,?_,b⟩
    rw [a,sig.2.2.2 c]
    show z ^ 2=z*z
    rw [Nat.pow_two]
   simp only [hw.e]
   have sig3:=sig.2.2.1
   repeat' (first|(with_reducible first|refine qtB ?_|refine qfB ?_|refine qt ?_|refine qf ?_)|(with_reducible refine Wp.bindE (impl_placesOf_ev z (by omega) _ sig3) ?_)|(with_reducible refine Wp.bindE (contains_ev z T _ hrow (by omega)) ?_)|(with_reducible refine Wp.bindE (impl_indifferent_ev (sq (by omega) (inR_rd.2 (by assumption)) (by assumption))) ?_)|(exact hT' ⟨by omega,inR_rd.2 (by assumption),by simp_all⟩)|(exact hT' ⟨by omega,inR_rd.2 (by assumption),fun _=>by assumption⟩)|(simp only [decide_eq_true_eq])|(with_reducible refine Wp.ret ?_)|(with_reducible refine ql ?_)|(with_reducible refine Wp.iteB (fun hc=>?_) (fun hc=>?_))|(with_reducible refine Wp.ite (fun hc=>?_) (fun hc=>?_)))
   all_goals first | exact hT' ⟨by omega,inR_rd.2 (by assumption),by simp_all⟩ | exact hT' ⟨by omega,inR_rd.2 (by assumption),fun _=>by assumption⟩ | skip
   all_goals refine hF ?_
   ·intro h;have:=inR_rd.1 h.2.1;contradiction
   ·intro h;exact absurd (h.2.2 (by assumption)) (by assumption)
   ·intro h;have:=h.1;omega
  ·intro _
   refine Wp.step (fun k=>by rw [fQ38.l0]) ?_
   refine Wp.itef (by omega) (Wp.ret ?_)
   rw [eqB];simp
  ·refine B_congr ⟨fun h=>⟨by omega,h1,by omega,by omega,h.1⟩,fun h=>⟨h.2.2.2.2,trivial⟩⟩
 all_goals (rw [eqB];simp only [Bool.false_eq_true,false_iff];rintro ⟨_,h1,h2,h3,h4⟩;first | omega | contradiction)
theorem ord_int (a b:Int):compare a b=if a<b then .lt else if a=b then .eq else .gt:=by
 rcases Int.lt_trichotomy a b with h | h | h
 ·rw [if_pos h];exact Int.compare_eq_lt.2 h
 ·rw [if_neg (by omega),if_pos h];exact Int.compare_eq_eq.2 h
 ·rw [if_neg (by omega),if_neg (by omega)];exact Int.compare_eq_gt.2 h
theorem ord_nat (a b:Nat):compare a b=compare (a:Int) (b:Int):=by
 rw [ord_int]
 rcases Nat.lt_trichotomy a b with h | h | h
 ·rw [if_pos (by omega)];exact Nat.compare_eq_lt.2 h
 ·rw [if_neg (by omega),if_pos (by omega)];exact Nat.compare_eq_eq.2 h
 ·rw [if_neg (by omega),if_neg (by omega)];exact Nat.compare_eq_gt.2 h
theorem spec_TermSame_ev (a:I_Term):sz a≤1000000000→∀b:I_Term,Ev (fun k=>fQ27.f k a.f0 a.f1 a.f2 b.f0 b.f1 b.f2) (B (a=b)):=by
 induction a using tInd with
 | h a ih=>
 intro hs b
 have hlen:=sz_kids a
 refine Wp.ev ?_
 refine Wp.step (fun k=>by rw [fQ27.f]) ?_
 have eqt:a.f0=b.f0→a.f1=b.f1→(a=b↔a.f2=b.f2):=by
  intro h0 h1
  constructor
  ·rintro rfl;rfl
  ·intro h2;cases a;cases b;simp_all
 repeat' (first|(with_reducible first|refine qtB ?_|refine qfB ?_|refine qt ?_|refine qf ?_)|(simp only [decide_eq_true_eq])|(with_reducible refine Wp.ret ?_)|(with_reducible refine ql ?_)|(with_reducible refine Wp.iteB (fun hc=>?_) (fun hc=>?_))|(with_reducible refine Wp.ite (fun hc=>?_) (fun hc=>?_)))
 ·have hll:a.f2.length=b.f2.length:=by omega
  have e:=eqt (by assumption) (by assumption)
  refine Wp.both a.f2 zI_Term b.f2 zI_Term hll (by omega) (fun k i=>fQ27.l0 k i a.f0 a.f1 a.f2 b.f0 b.f1 b.f2) (fun p p'=>p=p') ?_ ?_ rfl
  ·intro p x q p' x' q' e1 e2 hp m m' hn hr hr' hw hI ih2
   refine Wp.step (fun k=>by rw [fQ27.l0]) ?_
   have ihx:=ih x m (by have:=sz_kid m;omega) x'
   have r1:rd_I_Term a.f2 (p.length:Int)=x:=hr
   have r2:rd_I_Term b.f2 (p.length:Int)=x':=hr'
   simp only [hw.e,r1,r2]
   repeat' (first|(with_reducible first|refine qtB ?_|refine qfB ?_|refine qt ?_|refine qf ?_)|(with_reducible refine Wp.bindE (ihx) ?_)|(exact ih2 (by rw [hI,hc]))|(simp only [decide_eq_true_eq])|(with_reducible refine Wp.ret ?_)|(with_reducible refine ql ?_)|(with_reducible refine Wp.iteB (fun hc=>?_) (fun hc=>?_))|(with_reducible refine Wp.ite (fun hc=>?_) (fun hc=>?_)))
   rw [eqB,e,e1,e2,hI]
   simp [hc]
  ·intro hI
   refine Wp.step (fun k=>by rw [fQ27.l0]) ?_
   repeat' (first|(with_reducible first|refine qtB ?_|refine qfB ?_|refine qt ?_|refine qf ?_)|(simp only [decide_eq_true_eq])|(with_reducible refine Wp.ret ?_)|(with_reducible refine ql ?_)|(with_reducible refine Wp.iteB (fun hc=>?_) (fun hc=>?_))|(with_reducible refine Wp.ite (fun hc=>?_) (fun hc=>?_)))
   rw [eqB,e];exact ⟨fun _=>hI,fun _=>rfl⟩
 all_goals (rw [eqB];simp only [Bool.false_eq_true,false_iff];rintro rfl;exact absurd rfl hc)
theorem spec_Before_ev (a:I_Term):sz a≤1000000000→∀b:I_Term,Ev (fun k=>fQ32.f k a.f0 a.f1 a.f2 b.f0 b.f1 b.f2) (bef a b):=by
 induction a using tInd with
 | h a ih=>
 intro hs b
 have hlen:=sz_kids a
 refine Wp.ev ?_
 refine Wp.step (fun k=>by rw [fQ32.f]) ?_
 unfold bef
 rw [cmpT_eq,ord_nat,ord_int,ord_int,ord_int]
 repeat' (first|(with_reducible first|refine qtB ?_|refine qfB ?_|refine qt ?_|refine qf ?_)|(simp only [decide_eq_true_eq])|(with_reducible refine Wp.ret ?_)|(with_reducible refine ql ?_)|(with_reducible refine Wp.iteB (fun hc=>?_) (fun hc=>?_))|(with_reducible refine Wp.ite (fun hc=>?_) (fun hc=>?_)))
 ·have hll:a.f2.length=b.f2.length:=by omega
  rw [if_neg (by omega),if_pos (by omega),if_neg (by omega),if_pos (by omega),if_neg (by omega),if_pos (by omega)]
  refine Wp.both a.f2 zI_Term b.f2 zI_Term hll (by omega) (fun k i=>fQ32.l0 k i a.f0 a.f1 a.f2 b.f0 b.f1 b.f2) (fun p p'=>p=p') ?_ ?_ rfl
  ·intro p x q p' x' q' e1 e2 hp m m' hn hr hr' hw hI ih2
   refine Wp.step (fun k=>by rw [fQ32.l0]) ?_
   have hx:=sz_kid m
   have ihx:=ih x m (by omega) x'
   have r1:rd_I_Term a.f2 (p.length:Int)=x:=hr
   have r2:rd_I_Term b.f2 (p.length:Int)=x':=hr'
   simp only [hw.e,r1,r2]
   repeat' (first|(with_reducible first|refine qtB ?_|refine qfB ?_|refine qt ?_|refine qf ?_)|(with_reducible refine Wp.bindE (spec_TermSame_ev x (by omega) x') ?_)|(with_reducible refine Wp.bindE (ihx) ?_)|(exact ih2 (by rw [hI,hc]))|(simp only [decide_eq_true_eq])|(with_reducible refine Wp.ret ?_)|(with_reducible refine ql ?_)|(with_reducible refine Wp.iteB (fun hc=>?_) (fun hc=>?_))|(with_reducible refine Wp.ite (fun hc=>?_) (fun hc=>?_)))
   have hne:=hc
   rw [e1,e2,hI,cmpTs_pre,cmpTs]
   unfold bef
   have:cmpT x x'≠.eq:=fun h=>hne (cmpT_same.1 h)
   cases h:cmpT x x'
   ·rfl
   ·exact absurd h this
   ·rfl
  ·intro hI
   refine Wp.step (fun k=>by rw [fQ32.l0]) ?_
   repeat' (first|(with_reducible first|refine qtB ?_|refine qfB ?_|refine qt ?_|refine qf ?_)|(simp only [decide_eq_true_eq])|(with_reducible refine Wp.ret ?_)|(with_reducible refine ql ?_)|(with_reducible refine Wp.iteB (fun hc=>?_) (fun hc=>?_))|(with_reducible refine Wp.ite (fun hc=>?_) (fun hc=>?_)))
   rw [hI]
   have:=cmpTs_pre b.f2 [] []
   rw [List.append_nil,cmpTs] at this
   rw [this];rfl
 ·rw [if_neg (by omega),if_pos (by omega),if_neg (by omega),if_pos (by omega)]
  by_cases h:(a.f2.length:Int)<(b.f2.length:Int)
  ·rw [if_pos h];simp [h,Ordering.then]
  ·rw [if_neg h,if_neg hc];simp [h,Ordering.then]
 ·rw [if_neg (by omega),if_pos (by omega)]
  by_cases h:a.f1<b.f1
  ·rw [if_pos h];simp [h,Ordering.then]
  ·rw [if_neg h,if_neg hc];simp [h,Ordering.then]
 ·by_cases h:a.f0<b.f0
  ·rw [if_pos h];simp [h,Ordering.then]
  ·rw [if_neg h,if_neg hc];simp [h,Ordering.then]
def Blind (s:List I_Sym) (f:Int):Prop:=0≤f∧f<(s.length:Int)∧(rd_I_Sym s f).f2=true
theorem spec_Blind_ev (s:List I_Sym) (h:Names s) (f:Int):Ev (fun _=>fQ79.f s f) (B (Blind s f)):=by
 refine Wp.ev ?_
 unfold fQ79.f
 have h1:=h.1
 simp only [wrap_id (x:=(s.length:Int) - 1) (by omega) (by omega)]
 repeat' (first|(with_reducible first|refine qtB ?_|refine qfB ?_|refine qt ?_|refine qf ?_)|(with_reducible refine Wp.bindE (spec_l1In_ev _ _ _) ?_)|(simp only [decide_eq_true_eq])|(with_reducible refine Wp.ret ?_)|(with_reducible refine ql ?_)|(with_reducible refine Wp.iteB (fun hc=>?_) (fun hc=>?_))|(with_reducible refine Wp.ite (fun hc=>?_) (fun hc=>?_)))
 all_goals (rw [eqB];unfold Blind;simp_all;try omega)
def putT (t:I_Term):List I_Term→List I_Term
 | []=>[t]
 | a::l=>if bef t a then t::a::l else a::putT t l
theorem putT_at (t:I_Term) (p l:List I_Term) (h:∀x∈p,bef t x=false):putT t (p++l)=p++putT t l:=by
 induction p with
 | nil=>rfl
 | cons a p ih=>
  rw [List.cons_append,putT,h a (by simp),if_neg (by decide),ih (fun x hx=>h x (by simp [hx]))];rfl
theorem szs_put (t:I_Term) (l:List I_Term):szs (putT t l)=sz t+szs l:=by
 induction l with
 | nil=>simp [putT,szs]
 | cons a l ih=>
  rw [putT]
  split
  ·simp [szs]
  ·simp only [szs,ih];omega
theorem takeAt {α:Type} (p q:List α):(p++q).take p.length=p:=by simp
theorem dropAt {α:Type} (p q:List α):(p++q).drop p.length=q:=by simp
theorem toNatCast (n:Nat):(n:Int).toNat=n:=rfl
theorem spec_l4Put_v2_ev (l:List I_Term) (t:I_Term) (h:szs l+sz t≤1000000000):Ev (fun k=>fQ33.f k l t.f0 t.f1 t.f2) (putT t l):=by
 have hl:=szs_len l
 unfold fQ33.f
 refine Wp.ev (Wp.each0 l zI_Term (by omega) (fun k i=>fQ33.l0 k l i t.f0 t.f1 t.f2) (fun p=>∀x∈p,bef t x=false) ?_ ?_ (by simp))
 ·intro p x q e m hn hr hw hI ih
  refine Wp.step (fun k=>by rw [fQ33.l0]) ?_
  have r1:rd_I_Term l (p.length:Int)=x:=hr
  have ht:l.take p.length=p:=by rw [e];exact takeAt p _
  have hd:l.drop p.length=x::q:=by rw [e];exact dropAt p _
  simp only [hw.e,r1,tEta,toNatCast,ht,hd]
  have ih2:bef t x=false→_:=fun h0=>ih (fun y hy=>(List.mem_append.1 hy).elim (hI y) (fun h=>by rw [List.mem_singleton.1 h];exact h0))
  repeat' (first|(with_reducible first|refine qtB ?_|refine qfB ?_|refine qt ?_|refine qf ?_)|(with_reducible refine Wp.bindE (spec_Before_ev t (by omega) x) ?_)|(exact ih2 (Bool.not_eq_true _▸hc))|(simp only [decide_eq_true_eq])|(with_reducible refine Wp.ret ?_)|(with_reducible refine ql ?_)|(with_reducible refine Wp.iteB (fun hc=>?_) (fun hc=>?_))|(with_reducible refine Wp.ite (fun hc=>?_) (fun hc=>?_)))
  rw [e,putT_at t p _ hI,putT,if_pos (by assumption)]
  simp
 ·intro hI
  refine Wp.step (fun k=>by rw [fQ33.l0]) ?_
  have ht:l.take l.length=l:=List.take_length
  have hd:l.drop l.length=[]:=List.drop_length
  simp only [tEta,toNatCast,ht,hd]
  repeat' (first|(with_reducible first|refine qtB ?_|refine qfB ?_|refine qt ?_|refine qf ?_)|(simp only [decide_eq_true_eq])|(with_reducible refine Wp.ret ?_)|(with_reducible refine ql ?_)|(with_reducible refine Wp.iteB (fun hc=>?_) (fun hc=>?_))|(with_reducible refine Wp.ite (fun hc=>?_) (fun hc=>?_)))
  have:=putT_at t l [] hI
  rw [List.append_nil] at this
  rw [this,putT]
  simp
noncomputable def addK (s:List I_Sym) (f:Int) (acc:List I_Term) (k:I_Term):List I_Term:=
 if B (Blind s f)=true then (if k.f0=f then k.f2.foldl (fun a x=>putT x a) acc else putT k acc) else acc++[k]
mutual
noncomputable def norm (s:List I_Sym):I_Term→I_Term
 | ⟨f,v,l⟩=>⟨f,v,normL s f l []⟩
noncomputable def normL (s:List I_Sym) (f:Int):List I_Term→List I_Term→List I_Term
 | [],acc=>acc
 | t::l,acc=>normL s f l (addK s f acc (norm s t))
end
theorem norm_f0 (s:List I_Sym) (t:I_Term):(norm s t).f0=t.f0:=by cases t;rw [norm]
theorem norm_f1 (s:List I_Sym) (t:I_Term):(norm s t).f1=t.f1:=by cases t;rw [norm]
theorem norm_f2 (s:List I_Sym) (t:I_Term):(norm s t).f2=normL s t.f0 t.f2 []:=by cases t;rw [norm]
theorem normL_app (s:List I_Sym) (f:Int) (p:List I_Term):∀(q acc:List I_Term),normL s f (p++q) acc=normL s f q (normL s f p acc):=by
 induction p with
 | nil=>intro q acc;rw [List.nil_append,normL]
 | cons a p ih=>intro q acc;rw [List.cons_append,normL,normL,ih]
theorem szs_foldput (k:List I_Term):∀acc,szs (k.foldl (fun a x=>putT x a) acc)=szs acc+szs k:=by
 induction k with
 | nil=>intro acc;simp [szs]
 | cons a k ih=>intro acc;rw [List.foldl_cons,ih,szs_put,szs];omega
theorem szs_addK (s:List I_Sym) (f:Int) (acc:List I_Term) (k:I_Term):szs (addK s f acc k)≤szs acc+sz k:=by
 unfold addK
 have:=sz_eq k
 split
 ·split
  ·rw [szs_foldput];omega
  ·rw [szs_put];omega
 ·rw [szs_append,szs,szs];omega
theorem sz_norm (s:List I_Sym) (t:I_Term):sz (norm s t)≤sz t:=by
 induction t using tInd with
 | h t ih=>
  have:∀l acc,(∀x∈l,sz (norm s x)≤sz x)→szs (normL s t.f0 l acc)≤szs acc+szs l:=by
   intro l
   induction l with
   | nil=>intro acc _;rw [normL,szs];omega
   | cons a l ihl=>
    intro acc h
    have h1:=ihl (addK s t.f0 acc (norm s a)) (fun x hx=>h x (by simp [hx]))
    have h2:=szs_addK s t.f0 acc (norm s a)
    have h3:=h a (by simp)
    rw [normL,szs];omega
  have h:=this t.f2 [] ih
  rw [sz_eq,norm_f2,sz_eq t]
  simp only [szs] at h
  omega
theorem spec_Norm_ev (s:List I_Sym) (hs:Names s) (t:I_Term):sz t≤1000000000→Ev (fun k=>spec_Norm.f k s t.f0 t.f1 t.f2) ((norm s t).f0,(norm s t).f1,(norm s t).f2):=by
 induction t using tInd with
 | h t ih=>
 intro ht
 have hlen:=sz_kids t
 refine Wp.ev ?_
 refine Wp.step (fun k=>by rw [spec_Norm.f]) ?_
 refine Wp.each1 t.f2 zI_Term (by omega) (fun k i b=>spec_Norm.l0 k s i t.f0 t.f1 t.f2 0 0 t.f0 t.f1 b) (fun p b=>b=normL s t.f0 p []∧szs b≤szs p) ?_ ?_ [] ⟨by rw [normL],Nat.le_refl _⟩
 ·intro p x q b e m hn hr hw hI jh
  obtain ⟨hI1,hI2⟩:=hI
  refine Wp.step (fun k=>by rw [spec_Norm.l0]) ?_
  have r1:rd_I_Term t.f2 (p.length:Int)=x:=hr
  have hx:=sz_kid m
  have ihx:=ih x m (by omega)
  have hnx:=sz_norm s x
  have hsz:szs t.f2=szs p+(sz x+szs q):=by rw [e,szs_append,szs]
  have h0:=sz_eq t
  have e2:∀b',b'=addK s t.f0 b (norm s x)→b'=normL s t.f0 (p++[x]) []∧szs b'≤szs (p++[x]):=by
   rintro b' rfl
   have:=szs_addK s t.f0 b (norm s x)
   refine ⟨?_,by rw [szs_append,szs,szs];omega⟩
   rw [normL_app,←hI1,normL,normL]
  have hbl:=szs_len b
  simp only [hw.e,r1]
  repeat' (first|(with_reducible first|refine qtB ?_|refine qfB ?_|refine qt ?_|refine qf ?_)|(with_reducible refine Wp.bindE (ihx) ?_)|(with_reducible refine Wp.bindE (spec_Blind_ev s hs _) ?_)|(with_reducible refine Wp.bindE (spec_l4Put_v2_ev _ _ (by omega)) ?_)|(simp only [decide_eq_true_eq])|(with_reducible refine Wp.ret ?_)|(with_reducible refine ql ?_)|(with_reducible refine Wp.iteB (fun hc=>?_) (fun hc=>?_))|(with_reducible refine Wp.ite (fun hc=>?_) (fun hc=>?_)))
  ·rename_i hb
   have hk:=hc
   refine Wp.each1 (norm s x).f2 zI_Term (by have:=sz_kids (norm s x);omega) (fun k i b=>spec_Norm.l1 k s p.length i t.f0 t.f1 t.f2 0 0 t.f0 t.f1 b (norm s x).f0 (norm s x).f1 (norm s x).f2) (fun p' b'=>b'=p'.foldl (fun a x=>putT x a) b) ?_ ?_ b rfl
   ·intro p' x' q' b' e' m' hn' hr' hw' hI' jh'
    refine Wp.step (fun k=>by rw [spec_Norm.l1]) ?_
    have r2:rd_I_Term (norm s x).f2 (p'.length:Int)=x':=hr'
    have h2:szs (norm s x).f2=szs p'+(sz x'+szs q'):=by rw [e',szs_append,szs]
    have h3:=sz_eq (norm s x)
    have h4:=szs_foldput p' b
    simp only [hw'.e,r2]
    repeat' (first|(with_reducible first|refine qtB ?_|refine qfB ?_|refine qt ?_|refine qf ?_)|(with_reducible refine Wp.bindE (spec_l4Put_v2_ev _ _ (by rw [hI',h4];omega)) ?_)|(exact jh' _ (by rw [List.foldl_append,←hI'];rfl))|(simp only [decide_eq_true_eq])|(with_reducible refine Wp.ret ?_)|(with_reducible refine ql ?_)|(with_reducible refine Wp.iteB (fun hc=>?_) (fun hc=>?_))|(with_reducible refine Wp.ite (fun hc=>?_) (fun hc=>?_)))
   ·intro b' hI'
    refine Wp.step (fun k=>by rw [spec_Norm.l1]) ?_
    simp only [hw.e]
    repeat' (first|(with_reducible first|refine qtB ?_|refine qfB ?_|refine qt ?_|refine qf ?_)|(exact jh _ (e2 _ (by rw [addK,if_pos (B_iff.2 hb),if_pos hk];exact hI')))|(simp only [decide_eq_true_eq])|(with_reducible refine Wp.ret ?_)|(with_reducible refine ql ?_)|(with_reducible refine Wp.iteB (fun hc=>?_) (fun hc=>?_))|(with_reducible refine Wp.ite (fun hc=>?_) (fun hc=>?_)))
  ·rename_i hb
   have hk:=hc
   exact jh _ (e2 _ (by rw [addK,if_pos (B_iff.2 hb),if_neg hk]))
  ·exact jh _ (e2 _ (by rw [addK,if_neg (fun h=>hc (B_iff.1 h)),tEta]))
 ·intro b hI
  refine Wp.step (fun k=>by rw [spec_Norm.l0]) ?_
  repeat' (first|(with_reducible first|refine qtB ?_|refine qfB ?_|refine qt ?_|refine qf ?_)|(simp only [decide_eq_true_eq])|(with_reducible refine Wp.ret ?_)|(with_reducible refine ql ?_)|(with_reducible refine Wp.iteB (fun hc=>?_) (fun hc=>?_))|(with_reducible refine Wp.ite (fun hc=>?_) (fun hc=>?_)))
  rw [norm_f0,norm_f1,norm_f2,hI.1]
theorem lEta (l:I_Lit):(⟨l.f0,l.f1,l.f2⟩:I_Lit)=l:=rfl
noncomputable def litMake (s:List I_Sym) (pos:Bool) (a b:I_Term):I_Lit:=if bef (norm s a) (norm s b)=true then ⟨pos,norm s b,norm s a⟩ else ⟨pos,norm s a,norm s b⟩
def cmpB:Bool→Bool→Ordering
 | false,true=>.lt
 | true,false=>.gt
 | _,_=>.eq
def cmpL (a b:I_Lit):Ordering:=(cmpB a.f0 b.f0).then ((cmpT a.f1 b.f1).then (cmpT a.f2 b.f2))
def litBef (a b:I_Lit):Bool:=cmpL a b==.lt
def szL (l:I_Lit):Nat:=sz l.f1+sz l.f2
def szC:List I_Lit→Nat
 | []=>0
 | l::r=>szL l+szC r
theorem szL_pos (l:I_Lit):1≤szL l:=by have:=sz_eq l.f1;unfold szL;omega
theorem szC_len (c:List I_Lit):c.length≤szC c:=by
 induction c with
 | nil=>simp
 | cons a c ih=>have:=szL_pos a;rw [List.length_cons,szC];omega
theorem szC_app (a b:List I_Lit):szC (a++b)=szC a+szC b:=by
 induction a with
 | nil=>simp [szC]
 | cons x a ih=>rw [List.cons_append,szC,szC,ih];omega
theorem szC_mem {c:List I_Lit} {l:I_Lit} (h:l∈c):szL l≤szC c:=by
 induction c with
 | nil=>cases h
 | cons a c ih=>
  rw [szC]
  rcases List.mem_cons.1 h with rfl | h
  ·omega
  ·have:=ih h;omega
theorem szL_make (s:List I_Sym) (pos:Bool) (a b:I_Term):szL (litMake s pos a b)≤sz a+sz b:=by
 have h1:=sz_norm s a
 have h2:=sz_norm s b
 unfold litMake szL
 split <;> simp only <;> omega
theorem spec_LitMake_ev (s:List I_Sym) (hs:Names s) (pos:Bool) (a b:I_Term) (ha:sz a≤1000000000) (hb:sz b≤1000000000):Ev (fun k=>fQ80.f k s pos a.f0 a.f1 a.f2 b.f0 b.f1 b.f2) ((litMake s pos a b).f0,(litMake s pos a b).f1.f0,(litMake s pos a b).f1.f1,(litMake s pos a b).f1.f2,(litMake s pos a b).f2.f0,(litMake s pos a b).f2.f1,(litMake s pos a b).f2.f2):=by
 refine Wp.ev ?_
 unfold fQ80.f
 have h1:=sz_norm s a
 repeat' (first|(with_reducible first|refine qtB ?_|refine qfB ?_|refine qt ?_|refine qf ?_)|(with_reducible refine Wp.bindE (spec_Norm_ev s hs a ha) ?_)|(with_reducible refine Wp.bindE (spec_Norm_ev s hs b hb) ?_)|(with_reducible refine Wp.bindE (spec_Before_ev _ (by omega) _) ?_)|(simp only [decide_eq_true_eq])|(with_reducible refine Wp.ret ?_)|(with_reducible refine ql ?_)|(with_reducible refine Wp.iteB (fun hc=>?_) (fun hc=>?_))|(with_reducible refine Wp.ite (fun hc=>?_) (fun hc=>?_)))
 ·rw [litMake,if_pos (by assumption)]
 ·rw [litMake,if_neg (by simp_all)]
theorem spec_LitBefore_ev (a b:I_Lit) (ha:szL a≤1000000000):Ev (fun k=>fQ70.f k a.f0 a.f1.f0 a.f1.f1 a.f1.f2 a.f2.f0 a.f2.f1 a.f2.f2 b.f0 b.f1.f0 b.f1.f1 b.f1.f2 b.f2.f0 b.f2.f1 b.f2.f2) (litBef a b):=by
 refine Wp.ev ?_
 unfold fQ70.f
 have h1:sz a.f1≤1000000000:=by unfold szL at ha;omega
 have h2:sz a.f2≤1000000000:=by unfold szL at ha;omega
 have h0:a.f0=b.f0→cmpB a.f0 b.f0=.eq:=by intro h;rw [h];cases b.f0 <;> rfl
 repeat' (first|(with_reducible first|refine qtB ?_|refine qfB ?_|refine qt ?_|refine qf ?_)|(with_reducible refine Wp.bindE (spec_TermSame_ev a.f1 h1 b.f1) ?_)|(with_reducible refine Wp.bindE (spec_Before_ev a.f1 h1 b.f1) ?_)|(with_reducible refine Wp.bindE (spec_Before_ev a.f2 h2 b.f2) ?_)|(simp only [decide_eq_true_eq])|(with_reducible refine Wp.ret ?_)|(with_reducible refine ql ?_)|(with_reducible refine Wp.iteB (fun hc=>?_) (fun hc=>?_))|(with_reducible refine Wp.ite (fun hc=>?_) (fun hc=>?_)))
 ·rename_i hf
  unfold litBef cmpL bef
  rw [h0 hf,cmpT_same.2 hc];rfl
 ·rename_i hf
  unfold litBef cmpL bef
  have:cmpT a.f1 b.f1≠.eq:=fun h=>hc (cmpT_same.1 h)
  rw [h0 hf]
  cases h:cmpT a.f1 b.f1
  ·rfl
  ·exact absurd h this
  ·rfl
 ·unfold litBef cmpL
  cases h:a.f0 <;> cases h':b.f0 <;> simp_all [cmpB,Ordering.then]
theorem spec_LitSame_ev (a b:I_Lit) (ha:szL a≤1000000000):Ev (fun k=>fQ85.f k a.f0 a.f1.f0 a.f1.f1 a.f1.f2 a.f2.f0 a.f2.f1 a.f2.f2 b.f0 b.f1.f0 b.f1.f1 b.f1.f2 b.f2.f0 b.f2.f1 b.f2.f2) (B (a=b)):=by
 refine Wp.ev ?_
 unfold fQ85.f
 have h1:sz a.f1≤1000000000:=by unfold szL at ha;omega
 have h2:sz a.f2≤1000000000:=by unfold szL at ha;omega
 have e:a=b↔a.f0=b.f0∧a.f1=b.f1∧a.f2=b.f2:=by
  constructor
  ·rintro rfl;exact ⟨rfl,rfl,rfl⟩
  ·rintro ⟨x,y,z⟩;cases a;cases b;simp_all
 repeat' (first|(with_reducible first|refine qtB ?_|refine qfB ?_|refine qt ?_|refine qf ?_)|(with_reducible refine Wp.bindE (spec_TermSame_ev a.f1 h1 b.f1) ?_)|(with_reducible refine Wp.bindE (spec_TermSame_ev a.f2 h2 b.f2) ?_)|(simp only [decide_eq_true_eq])|(with_reducible refine Wp.ret ?_)|(with_reducible refine ql ?_)|(with_reducible refine Wp.iteB (fun hc=>?_) (fun hc=>?_))|(with_reducible refine Wp.ite (fun hc=>?_) (fun hc=>?_)))
 ·exact B_congr (by rw [e];simp_all)
 ·rw [eqB,e];simp_all
 ·rw [eqB,e];simp_all
noncomputable def putL (l:I_Lit):List I_Lit→List I_Lit
 | []=>[l]
 | a::r=>if litBef a l=true then a::putL l r else if B (a=l)=true then a::r else l::a::r
theorem putL_at (l:I_Lit) (p q:List I_Lit) (h:∀x∈p,litBef x l=true):putL l (p++q)=p++putL l q:=by
 induction p with
 | nil=>rfl
 | cons a p ih=>rw [List.cons_append,putL,if_pos (h a (by simp)),ih (fun x hx=>h x (by simp [hx]))];rfl
theorem szC_put (l:I_Lit) (c:List I_Lit):szC (putL l c)≤szL l+szC c:=by
 induction c with
 | nil=>simp [putL,szC]
 | cons a c ih=>
  rw [putL]
  split
  ·simp only [szC];omega
  ·split <;> simp only [szC] <;> omega
noncomputable def clauseMake (s:List I_Sym) (l:List I_Lit):List I_Lit:=l.foldl (fun a x=>putL (litMake s x.f0 x.f1 x.f2) a) []
theorem szC_fold (s:List I_Sym) (l:List I_Lit):∀acc,szC (l.foldl (fun a x=>putL (litMake s x.f0 x.f1 x.f2) a) acc)≤szC acc+szC l:=by
 induction l with
 | nil=>intro acc;simp [szC]
 | cons a l ih=>
  intro acc
  have h1:=ih (putL (litMake s a.f0 a.f1 a.f2) acc)
  have h2:=szC_put (litMake s a.f0 a.f1 a.f2) acc
  have h3:=szL_make s a.f0 a.f1 a.f2
  rw [List.foldl_cons,szC]
  unfold szL at h3⊢
  unfold szL at h2
  omega
theorem szC_make (s:List I_Sym) (l:List I_Lit):szC (clauseMake s l)≤szC l:=by have:=szC_fold s l [];simp only [szC] at this;unfold clauseMake;omega
theorem spec_ClauseMake_ev (s:List I_Sym) (hs:Names s) (l:List I_Lit) (h:szC l≤1000000000):Ev (fun k=>fQ15.f k s l) (clauseMake s l):=by
 have hl:=szC_len l
 unfold fQ15.f
 refine Wp.ev (Wp.each1 l zI_Lit (by omega) (fun k i b=>fQ15.l0 k s l i b) (fun p b=>b=clauseMake s p) ?_ ?_ [] rfl)
 ·intro p x q b e m hn hr hw hI ih
  refine Wp.step (fun k=>by rw [fQ15.l0]) ?_
  have r1:rd_I_Lit l (p.length:Int)=x:=hr
  have hx:=szC_mem m
  have hsz:szC l=szC p+(szL x+szC q):=by rw [e,szC_app,szC]
  have hb:szC b≤szC p:=by rw [hI];exact szC_make s p
  have hbl:=szC_len b
  have hmk:=szL_make s x.f0 x.f1 x.f2
  have e2:∀b',b'=putL (litMake s x.f0 x.f1 x.f2) b→b'=clauseMake s (p++[x]):=by rintro _ rfl;rw [hI];unfold clauseMake;rw [List.foldl_append];rfl
  have hsL:szL x=sz x.f1+sz x.f2:=rfl
  simp only [hw.e,r1]
  repeat' (first|(with_reducible first|refine qtB ?_|refine qfB ?_|refine qt ?_|refine qf ?_)|(with_reducible refine Wp.bindE (spec_LitMake_ev s hs x.f0 x.f1 x.f2 (by omega) (by omega)) ?_)|(simp only [decide_eq_true_eq])|(with_reducible refine Wp.ret ?_)|(with_reducible refine ql ?_)|(with_reducible refine Wp.iteB (fun hc=>?_) (fun hc=>?_))|(with_reducible refine Wp.ite (fun hc=>?_) (fun hc=>?_)))
  refine Wp.each0 b zI_Lit (by omega) (fun k i=>fQ15.l1 k s l p.length i b (litMake s x.f0 x.f1 x.f2).f0 (litMake s x.f0 x.f1 x.f2).f1.f0 (litMake s x.f0 x.f1 x.f2).f1.f1 (litMake s x.f0 x.f1 x.f2).f1.f2 (litMake s x.f0 x.f1 x.f2).f2.f0 (litMake s x.f0 x.f1 x.f2).f2.f1 (litMake s x.f0 x.f1 x.f2).f2.f2) (fun p'=>∀y∈p',litBef y (litMake s x.f0 x.f1 x.f2)=true) ?_ ?_ (by simp)
  ·intro p' y q' e' m' hn' hr' hw' hI' ih'
   refine Wp.step (fun k=>by rw [fQ15.l1]) ?_
   have r2:rd_I_Lit b (p'.length:Int)=y:=hr'
   have hy:=szC_mem m'
   have ht:b.take p'.length=p':=by rw [e'];exact takeAt p' _
   have hd:b.drop p'.length=y::q':=by rw [e'];exact dropAt p' _
   simp only [hw.e,hw'.e,r2,tEta,lEta,toNatCast,ht,hd]
   repeat' (first|(with_reducible first|refine qtB ?_|refine qfB ?_|refine qt ?_|refine qf ?_)|(with_reducible refine Wp.bindE (spec_LitBefore_ev y _ (by omega)) ?_)|(with_reducible refine Wp.bindE (spec_LitSame_ev y _ (by omega)) ?_)|(exact ih' (snocAll hI' hc))|(simp only [decide_eq_true_eq])|(with_reducible refine Wp.ret ?_)|(with_reducible refine ql ?_)|(with_reducible refine Wp.iteB (fun hc=>?_) (fun hc=>?_))|(with_reducible refine Wp.ite (fun hc=>?_) (fun hc=>?_)))
   ·rename_i h1
    refine ih _ (e2 _ ?_)
    rw [e',putL_at _ p' _ hI',putL,if_neg h1,if_pos (B_iff.2 hc)]
   ·rename_i h1
    refine ih _ (e2 _ ?_)
    rw [e',putL_at _ p' _ hI',putL,if_neg h1,if_neg (fun h=>hc (B_iff.1 h))]
    simp
  ·intro hI'
   refine Wp.step (fun k=>by rw [fQ15.l1]) ?_
   have ht:b.take b.length=b:=List.take_length
   have hd:b.drop b.length=[]:=List.drop_length
   simp only [hw.e,tEta,lEta,toNatCast,ht,hd]
   repeat' (first|(with_reducible first|refine qtB ?_|refine qfB ?_|refine qt ?_|refine qf ?_)|(simp only [decide_eq_true_eq])|(with_reducible refine Wp.ret ?_)|(with_reducible refine ql ?_)|(with_reducible refine Wp.iteB (fun hc=>?_) (fun hc=>?_))|(with_reducible refine Wp.ite (fun hc=>?_) (fun hc=>?_)))
   refine ih _ (e2 _ ?_)
   have:=putL_at _ b [] hI'
   rw [List.append_nil] at this
   rw [this,putL]
   simp
 ·intro b hI
  refine Wp.step (fun k=>by rw [fQ15.l0]) ?_
  repeat' (first|(with_reducible first|refine qtB ?_|refine qfB ?_|refine qt ?_|refine qf ?_)|(simp only [decide_eq_true_eq])|(with_reducible refine Wp.ret ?_)|(with_reducible refine ql ?_)|(with_reducible refine Wp.iteB (fun hc=>?_) (fun hc=>?_))|(with_reducible refine Wp.ite (fun hc=>?_) (fun hc=>?_)))
  exact hI
def insN (n:Int):List Int→List Int
 | []=>[n]
 | a::r=>if a<n then a::insN n r else n::a::r
noncomputable def numAdd (l:List Int) (n:Int):List Int:=if B (n∈l)=true then l else insN n l
theorem insN_at (n:Int) (p q:List Int) (h:∀x∈p,x<n):insN n (p++q)=p++insN n q:=by
 induction p with
 | nil=>rfl
 | cons a p ih=>rw [List.cons_append,insN,if_pos (h a (by simp)),ih (fun x hx=>h x (by simp [hx]))];rfl
theorem insN_len (n:Int) (l:List Int):(insN n l).length=l.length+1:=by
 induction l with
 | nil=>rfl
 | cons a l ih=>
  rw [insN]
  split
  ·rw [List.length_cons,ih];rfl
  ·rfl
theorem numAdd_len (l:List Int) (n:Int):(numAdd l n).length≤l.length+1:=by
 unfold numAdd
 split
 ·omega
 ·rw [insN_len];omega
theorem spec_NumIn_ev (l:List Int) (n:Int) (h:l.length≤1000000000):Ev (fun k=>fQ68.f k l n) (B (n∈l)):=by
 unfold fQ68.f
 refine Wp.ev (Wp.each0 l 0 h (fun k i=>fQ68.l0 k l n i) (fun p=>n∉p) ?_ ?_ (by simp))
 ·intro p x q e m hn hr hw hI ih
  refine Wp.step (fun k=>by rw [fQ68.l0]) ?_
  have r1:rd l (p.length:Int)=x:=hr
  simp only [hw.e,r1]
  have ih2:¬x=n→_:=fun h0=>ih (fun h=>(List.mem_append.1 h).elim hI (fun h=>h0 (List.mem_singleton.1 h).symm))
  repeat' (first|(with_reducible first|refine qtB ?_|refine qfB ?_|refine qt ?_|refine qf ?_)|(exact ih2 hc)|(simp only [decide_eq_true_eq])|(with_reducible refine Wp.ret ?_)|(with_reducible refine ql ?_)|(with_reducible refine Wp.iteB (fun hc=>?_) (fun hc=>?_))|(with_reducible refine Wp.ite (fun hc=>?_) (fun hc=>?_)))
  exact eqB.2 ⟨fun _=>hc▸m,fun _=>rfl⟩
 ·intro hI
  refine Wp.step (fun k=>by rw [fQ68.l0]) ?_
  repeat' (first|(with_reducible first|refine qtB ?_|refine qfB ?_|refine qt ?_|refine qf ?_)|(simp only [decide_eq_true_eq])|(with_reducible refine Wp.ret ?_)|(with_reducible refine ql ?_)|(with_reducible refine Wp.iteB (fun hc=>?_) (fun hc=>?_))|(with_reducible refine Wp.ite (fun hc=>?_) (fun hc=>?_)))
  exact eqB.2 ⟨fun h=>absurd h (by decide),fun h=>absurd h hI⟩
theorem spec_NumAdd_ev (l:List Int) (n:Int) (h:l.length≤1000000000):Ev (fun k=>fQ61.f k l n) (numAdd l n):=by
 refine Wp.ev ?_
 unfold fQ61.f
 repeat' (first|(with_reducible first|refine qtB ?_|refine qfB ?_|refine qt ?_|refine qf ?_)|(with_reducible refine Wp.bindE (spec_NumIn_ev l n (by omega)) ?_)|(simp only [decide_eq_true_eq])|(with_reducible refine Wp.ret ?_)|(with_reducible refine ql ?_)|(with_reducible refine Wp.iteB (fun hc=>?_) (fun hc=>?_))|(with_reducible refine Wp.ite (fun hc=>?_) (fun hc=>?_)))
 ·rw [numAdd,if_pos (B_iff.2 (by assumption))];simp
 ·rw [numAdd,if_neg (fun h=>hc (B_iff.1 h))]
  refine Wp.each0 l 0 (by omega) (fun k i=>fQ61.l0 k l n i) (fun p=>∀x∈p,x<n) ?_ ?_ (by simp)
  ·intro p x q e m hn hr hw hI ih
   refine Wp.step (fun k=>by rw [fQ61.l0]) ?_
   have r1:rd l (p.length:Int)=x:=hr
   have ht:l.take p.length=p:=by rw [e];exact takeAt p _
   have hd:l.drop p.length=x::q:=by rw [e];exact dropAt p _
   simp only [hw.e,r1,toNatCast,ht,hd]
   repeat' (first|(with_reducible first|refine qtB ?_|refine qfB ?_|refine qt ?_|refine qf ?_)|(exact ih (snocAll hI hc))|(simp only [decide_eq_true_eq])|(with_reducible refine Wp.ret ?_)|(with_reducible refine ql ?_)|(with_reducible refine Wp.iteB (fun hc=>?_) (fun hc=>?_))|(with_reducible refine Wp.ite (fun hc=>?_) (fun hc=>?_)))
   rw [e,insN_at n p _ hI,insN,if_neg (by assumption)]
   simp
  ·intro hI
   refine Wp.step (fun k=>by rw [fQ61.l0]) ?_
   have ht:l.take l.length=l:=List.take_length
   have hd:l.drop l.length=[]:=List.drop_length
   simp only [toNatCast,ht,hd]
   repeat' (first|(with_reducible first|refine qtB ?_|refine qfB ?_|refine qt ?_|refine qf ?_)|(simp only [decide_eq_true_eq])|(with_reducible refine Wp.ret ?_)|(with_reducible refine ql ?_)|(with_reducible refine Wp.iteB (fun hc=>?_) (fun hc=>?_))|(with_reducible refine Wp.ite (fun hc=>?_) (fun hc=>?_)))
   have:=insN_at n l [] hI
   rw [List.append_nil] at this
   rw [this,insN]
   simp
theorem impl_NumIn_ev (l:List Int) (n:Int) (h:l.length≤1000000000):Ev (fun k=>fQ96.f k l n) (B (n∈l)):=by
 have key:Ev (fun k=>fQ29.f k l n) (fidx (fun i=>n=rd l i) l.length 0):=by
  unfold fQ29.f
  refine Wp.find l.length h (fun k i=>fQ29.l0 k l n l.length i) (fun i=>i) ?_ ?_
  ·intro i P hi hw hT hF
   refine Wp.step (fun k=>by rw [fQ29.l0]) ?_
   simp only [hw.e]
   repeat' (first|(with_reducible first|refine qtB ?_|refine qfB ?_|refine qt ?_|refine qf ?_)|(simp only [decide_eq_true_eq])|(with_reducible refine Wp.ret ?_)|(with_reducible refine ql ?_)|(with_reducible refine Wp.iteB (fun hc=>?_) (fun hc=>?_))|(with_reducible refine Wp.ite (fun hc=>?_) (fun hc=>?_)))
   all_goals first | exact hF (by assumption) | exact hT (by assumption)
  ·refine Wp.step (fun k=>by rw [fQ29.l0]) ?_
   repeat' (first|(with_reducible first|refine qtB ?_|refine qfB ?_|refine qt ?_|refine qf ?_)|(simp only [decide_eq_true_eq])|(with_reducible refine Wp.ret ?_)|(with_reducible refine ql ?_)|(with_reducible refine Wp.iteB (fun hc=>?_) (fun hc=>?_))|(with_reducible refine Wp.ite (fun hc=>?_) (fun hc=>?_)))
   all_goals rfl
 have k2:Ev (fun k=>fQ64.f k l n) (B (n∈l)):=by
  unfold fQ64.f
  refine (key.bind Ev.ret).val ?_
  rw [dec_B,B_congr (fidx_ge.trans ?_)]
  constructor
  ·rintro ⟨i,hi,rfl⟩;exact rd_mem (by omega) (by omega)
  ·intro hm
   obtain ⟨i,hi,rfl⟩:=List.getElem_of_mem hm
   refine ⟨i,hi,?_⟩
   show _=l.getD i 0
   rw [List.getD_eq_getElem?_getD,List.getElem?_eq_getElem hi];rfl
 unfold fQ96.f
 exact k2.bind Ev.ret
theorem rd_at (p:List Int) (x:Int) (q:List Int):rd (p++x::q) (p.length:Int)=x:=rdOf_at 0 p x q
theorem insN_idx (n:Int) (l:List Int) (hn:n∉l) (j:Nat) (hj:j≤l.length) (h1:∀i,i<j→rd l i<n) (h2:j<l.length→n<rd l j):insN n l=l.take j++n::l.drop j:=by
 have e:l=l.take j++l.drop j:=(List.take_append_drop j l).symm
 have hp:∀x∈l.take j,x<n:=by
  intro x hx
  obtain ⟨i,hi,rfl⟩:=List.getElem_of_mem hx
  rw [List.length_take] at hi
  have:=h1 i (by omega)
  have e2:rd l i=l[i]'(by omega):=by
   show l.getD i 0=_
   rw [List.getD_eq_getElem?_getD,List.getElem?_eq_getElem (by omega)];rfl
  rw [List.getElem_take]
  omega
 have h3:=insN_at n (l.take j) (l.drop j) hp
 rw [←e] at h3
 rw [h3]
 congr 1
 cases hd:l.drop j with
 | nil=>rfl
 | cons a r=>
  have hlt:j<l.length:=by
   have:(l.drop j).length=r.length+1:=by rw [hd];rfl
   rw [List.length_drop] at this;omega
  have ea:rd l j=a:=by
   show l.getD j 0=a
   rw [List.getD_eq_getElem?_getD,←List.head?_drop,hd];rfl
  have:=h2 hlt
  rw [insN,if_neg (by omega)]
theorem impl_Insert_ev (l:List Int) (j:Nat) (hj:j≤l.length) (n:Int) (h:l.length≤1000000000):Ev (fun _=>fQ76.f l j [n]) (l.take j++n::l.drop j):=by
 refine Wp.ev ?_
 unfold fQ76.f insF
 have one:([n]:List Int).length=1:=rfl
 repeat' (first|(with_reducible first|refine qtB ?_|refine qfB ?_|refine qt ?_|refine qf ?_)|(simp only [decide_eq_true_eq])|(with_reducible refine Wp.ret ?_)|(with_reducible refine ql ?_)|(with_reducible refine Wp.iteB (fun hc=>?_) (fun hc=>?_))|(with_reducible refine Wp.ite (fun hc=>?_) (fun hc=>?_)))
 rfl
theorem impl_NumAdd_ev (l:List Int) (n:Int) (h:l.length≤1000000000):Ev (fun k=>fQ84.f k l n) (numAdd l n):=by
 have key:Ev (fun k=>fQ3.f k l n) (fidx (fun i=>rd l i>n) l.length 0,n):=by
  unfold fQ3.f
  refine Wp.find l.length (by omega) (fun k i=>fQ3.l0 k l l.length i n) (fun i=>(i,n)) ?_ ?_
  ·intro i P hi hw hT hF
   refine Wp.step (fun k=>by rw [fQ3.l0]) ?_
   simp only [hw.e,fQ59.f,Option.bind_some]
   repeat' (first|(with_reducible first|refine qtB ?_|refine qfB ?_|refine qt ?_|refine qf ?_)|(simp only [decide_eq_true_eq])|(with_reducible refine Wp.ret ?_)|(with_reducible refine ql ?_)|(with_reducible refine Wp.iteB (fun hc=>?_) (fun hc=>?_))|(with_reducible refine Wp.ite (fun hc=>?_) (fun hc=>?_)))
   all_goals first | exact hF (by assumption) | exact hT (by assumption)
  ·refine Wp.step (fun k=>by rw [fQ3.l0]) ?_
   repeat' (first|(with_reducible first|refine qtB ?_|refine qfB ?_|refine qt ?_|refine qf ?_)|(simp only [decide_eq_true_eq])|(with_reducible refine Wp.ret ?_)|(with_reducible refine ql ?_)|(with_reducible refine Wp.iteB (fun hc=>?_) (fun hc=>?_))|(with_reducible refine Wp.ite (fun hc=>?_) (fun hc=>?_)))
   all_goals rfl
 have cl:Ev (fun _=>fQ36.f l) l:=Ev.cst (by unfold fQ36.f;rw [if_pos (by omega)])
 refine Wp.ev ?_
 unfold fQ84.f
 have hnin:n∉l→∀i:Nat,i<l.length→¬rd l i>n→rd l i<n:=by
  intro hin i hi h
  have hm:rd l i∈l:=rd_mem (by omega) (by omega)
  have:rd l i≠n:=fun e=>hin (e▸hm)
  omega
 rcases fidx_spec (fun i=>rd l i>n) l.length 0 with ⟨h1,h2⟩ | ⟨j,h1,h2,h3,h4,h5⟩
 ·rw [h1] at key
  repeat' (first|(with_reducible first|refine qtB ?_|refine qfB ?_|refine qt ?_|refine qf ?_)|(with_reducible refine Wp.bindE (cl) ?_)|(with_reducible refine Wp.bindE (impl_NumIn_ev l n (by omega)) ?_)|(with_reducible refine Wp.bindE (key) ?_)|(with_reducible refine Wp.bindE (impl_Insert_ev l l.length (Nat.le_refl _) n h) ?_)|(simp only [decide_eq_true_eq])|(with_reducible refine Wp.ret ?_)|(with_reducible refine ql ?_)|(with_reducible refine Wp.iteB (fun hc=>?_) (fun hc=>?_))|(with_reducible refine Wp.ite (fun hc=>?_) (fun hc=>?_)))
  ·rw [numAdd,if_pos (B_iff.2 hc)]
  ·rw [numAdd,if_neg (fun h=>hc (B_iff.1 h)),insN_idx n l hc l.length (Nat.le_refl _) (fun i hi=>hnin hc i hi (h2 i (by omega) (by omega))) (fun h=>absurd h (Nat.lt_irrefl _))]
 ·rw [h3] at key
  have hj:j≤l.length:=by omega
  repeat' (first|(with_reducible first|refine qtB ?_|refine qfB ?_|refine qt ?_|refine qf ?_)|(with_reducible refine Wp.bindE (cl) ?_)|(with_reducible refine Wp.bindE (impl_NumIn_ev l n (by omega)) ?_)|(with_reducible refine Wp.bindE (key) ?_)|(with_reducible refine Wp.bindE (impl_Insert_ev l j hj n h) ?_)|(simp only [decide_eq_true_eq])|(with_reducible refine Wp.ret ?_)|(with_reducible refine ql ?_)|(with_reducible refine Wp.iteB (fun hc=>?_) (fun hc=>?_))|(with_reducible refine Wp.ite (fun hc=>?_) (fun hc=>?_)))
  ·rw [numAdd,if_pos (B_iff.2 hc)]
  ·rw [numAdd,if_neg (fun h=>hc (B_iff.1 h)),insN_idx n l hc j (by omega) (fun i hi=>hnin hc i (by omega) (h5 i (by omega) hi)) (fun _=>h4)]
mutual
noncomputable def varsT:I_Term→List Int→List Int
 | ⟨f,v,l⟩,acc=>varsL l (if f= -1 then numAdd acc v else acc)
noncomputable def varsL:List I_Term→List Int→List Int
 | [],acc=>acc
 | t::l,acc=>varsL l (varsT t acc)
end
theorem varsT_eq (t:I_Term) (acc:List Int):varsT t acc=varsL t.f2 (if t.f0= -1 then numAdd acc t.f1 else acc):=by cases t;rw [varsT]
theorem varsL_app (p q:List I_Term):∀acc,varsL (p++q) acc=varsL q (varsL p acc):=by
 induction p with
 | nil=>intro acc;rw [varsL];rfl
 | cons a p ih=>intro acc;rw [List.cons_append,varsL,varsL,ih]
theorem varsL_len {l:List I_Term} (h:∀x∈l,∀acc,(varsT x acc).length≤acc.length+sz x):∀acc,(varsL l acc).length≤acc.length+szs l:=by
 induction l with
 | nil=>intro acc;rw [varsL,szs];omega
 | cons a l ih=>
  intro acc
  have h1:=ih (fun x hx=>h x (by simp [hx])) (varsT a acc)
  have h2:=h a (by simp) acc
  rw [varsL,szs];omega
theorem varsT_len (t:I_Term):∀acc,(varsT t acc).length≤acc.length+sz t:=by
 induction t using tInd with
 | h t ih=>
  intro acc
  have h:=varsL_len ih (if t.f0= -1 then numAdd acc t.f1 else acc)
  have h2:=numAdd_len acc t.f1
  rw [varsT_eq,sz_eq]
  split at h <;> split <;> simp_all <;> omega
theorem spec_l3Vars_ev (t:I_Term):∀acc:List Int,acc.length+sz t≤1000000000→Ev (fun k=>fQ52.f k t.f0 t.f1 t.f2 acc) (varsT t acc):=by
 induction t using tInd with
 | h t ih=>
 intro acc h
 have hlen:=sz_kids t
 have hsz:=sz_eq t
 have loop:∀a0:List Int,a0.length+szs t.f2≤1000000000→Wp (fun k=>fQ52.l0 k a0 0 t.f0 t.f1 t.f2) (fun r=>r=varsL t.f2 a0):=by
  intro a0 h0
  refine Wp.each1 t.f2 zI_Term (by omega) (fun k i a=>fQ52.l0 k a i t.f0 t.f1 t.f2) (fun p a=>a=varsL p a0) ?_ ?_ a0 (by rw [varsL])
  ·intro p x q a e m hn hr hw hI jh
   refine Wp.step (fun k=>by rw [fQ52.l0]) ?_
   have r1:rd_I_Term t.f2 (p.length:Int)=x:=hr
   have h1:=varsL_len (l:=p) (fun x _=>varsT_len x) a0
   have h2:szs t.f2=szs p+(sz x+szs q):=by rw [e,szs_append,szs]
   simp only [hw.e,r1]
   repeat' (first|(with_reducible first|refine qtB ?_|refine qfB ?_|refine qt ?_|refine qf ?_)|(with_reducible refine Wp.bindE (ih x m a (by rw [hI];omega)) ?_)|(exact jh _ (by rw [varsL_app,←hI,varsL,varsL]))|(simp only [decide_eq_true_eq])|(with_reducible refine Wp.ret ?_)|(with_reducible refine ql ?_)|(with_reducible refine Wp.iteB (fun hc=>?_) (fun hc=>?_))|(with_reducible refine Wp.ite (fun hc=>?_) (fun hc=>?_)))
  ·intro a hI
   refine Wp.step (fun k=>by rw [fQ52.l0]) ?_
   repeat' (first|(with_reducible first|refine qtB ?_|refine qfB ?_|refine qt ?_|refine qf ?_)|(simp only [decide_eq_true_eq])|(with_reducible refine Wp.ret ?_)|(with_reducible refine ql ?_)|(with_reducible refine Wp.iteB (fun hc=>?_) (fun hc=>?_))|(with_reducible refine Wp.ite (fun hc=>?_) (fun hc=>?_)))
   exact hI
 refine Wp.ev ?_
 refine Wp.step (fun k=>by rw [fQ52.f]) ?_
 have hna:=numAdd_len acc t.f1
 rw [varsT_eq]
 repeat' (first|(with_reducible first|refine qtB ?_|refine qfB ?_|refine qt ?_|refine qf ?_)|(with_reducible refine Wp.bindE (spec_NumAdd_ev acc t.f1 (by omega)) ?_)|(simp only [decide_eq_true_eq])|(with_reducible refine Wp.ret ?_)|(with_reducible refine ql ?_)|(with_reducible refine Wp.iteB (fun hc=>?_) (fun hc=>?_))|(with_reducible refine Wp.ite (fun hc=>?_) (fun hc=>?_)))
 ·rw [if_pos (by assumption)];exact loop _ (by omega)
 ·rw [if_neg (by assumption)];exact loop _ (by omega)
noncomputable def varsC (c:List I_Lit):List Int:=c.foldl (fun a l=>varsT l.f2 (varsT l.f1 a)) []
theorem varsC_len (c:List I_Lit):(varsC c).length≤szC c:=by
 have:∀(c:List I_Lit) (a:List Int),(c.foldl (fun a l=>varsT l.f2 (varsT l.f1 a)) a).length≤a.length+szC c:=by
  intro c
  induction c with
  | nil=>intro a;simp [szC]
  | cons l c ih=>
   intro a
   have h1:=ih (varsT l.f2 (varsT l.f1 a))
   have h2:=varsT_len l.f2 (varsT l.f1 a)
   have h3:=varsT_len l.f1 a
   rw [List.foldl_cons,szC];unfold szL;omega
 have:=this c []
 simpa [varsC] using this
theorem varsC_snoc (p:List I_Lit) (x:I_Lit):varsC (p++[x])=varsT x.f2 (varsT x.f1 (varsC p)):=by unfold varsC;rw [List.foldl_append];rfl
theorem spec_ClauseVars_ev (c:List I_Lit) (h:szC c≤1000000000):Ev (fun k=>fQ44.f k c) (varsC c):=by
 have hl:=szC_len c
 unfold fQ44.f
 refine Wp.ev (Wp.each1 c zI_Lit (by omega) (fun k i a=>fQ44.l0 k a i c) (fun p a=>a=varsC p) ?_ ?_ [] rfl)
 ·intro p x q a e m hn hr hw hI ih
  refine Wp.step (fun k=>by rw [fQ44.l0]) ?_
  have r1:rd_I_Lit c (p.length:Int)=x:=hr
  have h1:=varsC_len p
  have h2:szC c=szC p+(szL x+szC q):=by rw [e,szC_app,szC]
  have h3:szL x=sz x.f1+sz x.f2:=rfl
  have h4:=varsT_len x.f1 a
  simp only [hw.e,r1]
  repeat' (first|(with_reducible first|refine qtB ?_|refine qfB ?_|refine qt ?_|refine qf ?_)|(with_reducible refine Wp.bindE (spec_l3Vars_ev x.f1 a (by rw [hI];omega)) ?_)|(with_reducible refine Wp.bindE (spec_l3Vars_ev x.f2 _ (by rw [hI] at h4⊢;omega)) ?_)|(exact ih _ (by rw [varsC_snoc,hI]))|(simp only [decide_eq_true_eq])|(with_reducible refine Wp.ret ?_)|(with_reducible refine ql ?_)|(with_reducible refine Wp.iteB (fun hc=>?_) (fun hc=>?_))|(with_reducible refine Wp.ite (fun hc=>?_) (fun hc=>?_)))
 ·intro a hI
  refine Wp.step (fun k=>by rw [fQ44.l0]) ?_
  repeat' (first|(with_reducible first|refine qtB ?_|refine qfB ?_|refine qt ?_|refine qf ?_)|(simp only [decide_eq_true_eq])|(with_reducible refine Wp.ret ?_)|(with_reducible refine ql ?_)|(with_reducible refine Wp.iteB (fun hc=>?_) (fun hc=>?_))|(with_reducible refine Wp.ite (fun hc=>?_) (fun hc=>?_)))
  exact hI
def Inc (l:List Int):Prop:=l.Pairwise (· < ·)
theorem mem_insN {n x:Int} {l:List Int}:x∈insN n l↔x=n∨x∈l:=by
 induction l with
 | nil=>simp [insN]
 | cons a l ih=>
  rw [insN]
  split
  ·rw [List.mem_cons,ih,List.mem_cons];grind
  ·rw [List.mem_cons]
theorem mem_numAdd {n x:Int} {l:List Int}:x∈numAdd l n↔x=n∨x∈l:=by
 unfold numAdd
 by_cases h:n∈l
 ·rw [if_pos (B_iff.2 h)]
  exact ⟨.inr,fun k=>k.elim (fun e=>e▸h) id⟩
 ·rw [if_neg (fun k=>h (B_iff.1 k))];exact mem_insN
theorem inc_insN {n:Int} {l:List Int} (h:Inc l) (hn:n∉l):Inc (insN n l):=by
 induction l with
 | nil=>exact List.pairwise_singleton _ _
 | cons a l ih=>
  rw [insN]
  have h1:=List.pairwise_cons.1 h
  have hne:a≠n:=fun e=>hn (by simp [e])
  split
  ·refine List.pairwise_cons.2 ⟨fun x hx=>?_,ih h1.2 (fun e=>hn (by simp [e]))⟩
   rcases mem_insN.1 hx with rfl | hx
   ·assumption
   ·exact h1.1 x hx
  ·refine List.pairwise_cons.2 ⟨fun x hx=>?_,h⟩
   rcases List.mem_cons.1 hx with rfl | hx
   ·omega
   ·have:=h1.1 x hx;omega
theorem inc_numAdd {n:Int} {l:List Int} (h:Inc l):Inc (numAdd l n):=by
 unfold numAdd
 by_cases hn:n∈l
 ·rw [if_pos (B_iff.2 hn)];exact h
 ·rw [if_neg (fun k=>hn (B_iff.1 k))];exact inc_insN h hn
theorem inc_eq:∀{a b:List Int},Inc a→Inc b→(∀x,x∈a↔x∈b)→a=b:=by
 intro a
 induction a with
 | nil=>
  intro b _ _ h
  cases b with
  | nil=>rfl
  | cons y b=>have:=(h y).2 (by simp);cases this
 | cons x a ih=>
  intro b ha hb h
  cases b with
  | nil=>have:=(h x).1 (by simp);cases this
  | cons y b=>
   have ha':=List.pairwise_cons.1 ha
   have hb':=List.pairwise_cons.1 hb
   have hxy:x=y:=by
    rcases List.mem_cons.1 ((h x).1 (by simp)) with e | e
    ·exact e
    ·rcases List.mem_cons.1 ((h y).2 (by simp)) with e' | e'
     ·exact e'.symm
     ·have:=hb'.1 x e;have:=ha'.1 y e';omega
   subst hxy
   rw [ih ha'.2 hb'.2 (fun z=>?_)]
   constructor
   ·intro hz
    rcases List.mem_cons.1 ((h z).1 (by simp [hz])) with e | e
    ·have:=ha'.1 z hz;omega
    ·exact e
   ·intro hz
    rcases List.mem_cons.1 ((h z).2 (by simp [hz])) with e | e
    ·have:=hb'.1 z hz;omega
    ·exact e
theorem foldAdd_inc (l:List Int):∀{a:List Int},Inc a→Inc (l.foldl numAdd a):=by
 induction l with
 | nil=>intro a h;exact h
 | cons x l ih=>intro a h;exact ih (inc_numAdd h)
theorem foldAdd_mem (l:List Int):∀{a:List Int} {x:Int},x∈l.foldl numAdd a↔x∈a∨x∈l:=by
 induction l with
 | nil=>intro a x;simp
 | cons y l ih=>
  intro a x
  rw [List.foldl_cons,ih,mem_numAdd,List.mem_cons];grind
mutual
def occT:I_Term→List Int
 | ⟨f,v,l⟩=>(if f= -1 then [v] else [])++occL l
def occL:List I_Term→List Int
 | []=>[]
 | t::l=>occT t++occL l
end
theorem occT_eq (t:I_Term):occT t=(if t.f0= -1 then [t.f1] else [])++occL t.f2:=by cases t;rw [occT]
theorem varsT_occ (t:I_Term):∀acc,varsT t acc=(occT t).foldl numAdd acc:=by
 induction t using tInd with
 | h t ih=>
  intro acc
  have:∀l:List I_Term,(∀x∈l,∀acc,varsT x acc=(occT x).foldl numAdd acc)→∀acc,varsL l acc=(occL l).foldl numAdd acc:=by
   intro l
   induction l with
   | nil=>intro _ acc;rw [varsL,occL];rfl
   | cons a l ihl=>intro h acc;rw [varsL,occL,List.foldl_append,h a (by simp),ihl (fun x hx=>h x (by simp [hx]))]
  rw [varsT_eq,occT_eq,List.foldl_append,this _ ih]
  split <;> rfl
theorem varsT_inc (t:I_Term) {acc:List Int} (h:Inc acc):Inc (varsT t acc):=by rw [varsT_occ];exact foldAdd_inc _ h
theorem varsT_mem (t:I_Term) {acc:List Int} {x:Int}:x∈varsT t acc↔x∈acc∨x∈occT t:=by rw [varsT_occ];exact foldAdd_mem _
theorem varsT_acc (t:I_Term) {acc:List Int} (h:Inc acc):(varsT t []).foldl numAdd acc=varsT t acc:=
 inc_eq (foldAdd_inc _ h) (varsT_inc t h) fun x=>by rw [foldAdd_mem,varsT_mem,varsT_mem];simp
theorem varsC_inc (c:List I_Lit):Inc (varsC c):=by
 have:∀(c:List I_Lit) (a:List Int),Inc a→Inc (c.foldl (fun a l=>varsT l.f2 (varsT l.f1 a)) a):=by
  intro c
  induction c with
  | nil=>intro a h;exact h
  | cons l c ih=>intro a h;exact ih _ (varsT_inc _ (varsT_inc _ h))
 exact this c [] List.Pairwise.nil
theorem impl_isVar_ev (a b:Int) (l:List I_Term):Ev (fun _=>fQ81.f a b l) (B (a= -1)):=by
 unfold fQ81.f
 exact Ev.ret.val dec_B
theorem impl_VarsOf_ev (t:I_Term) (h:sz t≤1000000000):Ev (fun k=>fQ88.f k t.f0 t.f1 t.f2) (varsT t []):=by
 have key:∀t:I_Term,∀acc:List Int,acc.length+sz t≤1000000000→Ev (fun k=>fQ9.f k t.f0 t.f1 t.f2 acc) (varsT t acc):=by
  intro t
  induction t using tInd with
  | h t ih=>
  intro acc h
  have hlen:=sz_kids t
  have hsz:=sz_eq t
  have hna:=numAdd_len acc t.f1
  have c1:Ev (fun k=>fQ60.f k t.f0 t.f1 t.f2 acc) (if t.f0= -1 then numAdd acc t.f1 else acc):=by
   refine Wp.ev ?_
   unfold fQ60.f
   repeat' (first|(with_reducible first|refine qtB ?_|refine qfB ?_|refine qt ?_|refine qf ?_)|(with_reducible refine Wp.bindE (impl_isVar_ev _ _ _) ?_)|(with_reducible refine Wp.bindE (impl_NumAdd_ev acc t.f1 (by omega)) ?_)|(simp only [decide_eq_true_eq])|(with_reducible refine Wp.ret ?_)|(with_reducible refine ql ?_)|(with_reducible refine Wp.iteB (fun hc=>?_) (fun hc=>?_))|(with_reducible refine Wp.ite (fun hc=>?_) (fun hc=>?_)))
   ·rw [if_pos (by assumption)]
   ·rw [if_neg (by assumption)]
  refine Wp.ev ?_
  refine Wp.step (fun k=>by rw [fQ9.f]) ?_
  rw [varsT_eq]
  refine Wp.bindE c1 ?_
  have ha0:(if t.f0= -1 then numAdd acc t.f1 else acc).length≤acc.length+1:=by split <;> omega
  generalize (if t.f0= -1 then numAdd acc t.f1 else acc)=a0 at ha0⊢
  refine Wp.each1 t.f2 zI_Term (by omega) (fun k i a=>fQ9.l0 k t.f2 t.f2.length i a) (fun p a=>a=varsL p a0) ?_ ?_ a0 (by rw [varsL])
  ·intro p x q a e m hn hr hw hI jh
   refine Wp.step (fun k=>by rw [fQ9.l0]) ?_
   have r1:rd_I_Term t.f2 (p.length:Int)=x:=hr
   have h1:=varsL_len (l:=p) (fun x _=>varsT_len x) a0
   have h2:szs t.f2=szs p+(sz x+szs q):=by rw [e,szs_append,szs]
   simp only [hw.e,r1]
   repeat' (first|(with_reducible first|refine qtB ?_|refine qfB ?_|refine qt ?_|refine qf ?_)|(with_reducible refine Wp.bindE (ih x m a (by rw [hI];omega)) ?_)|(exact jh _ (by rw [varsL_app,←hI,varsL,varsL]))|(simp only [decide_eq_true_eq])|(with_reducible refine Wp.ret ?_)|(with_reducible refine ql ?_)|(with_reducible refine Wp.iteB (fun hc=>?_) (fun hc=>?_))|(with_reducible refine Wp.ite (fun hc=>?_) (fun hc=>?_)))
  ·intro a hI
   refine Wp.step (fun k=>by rw [fQ9.l0]) ?_
   repeat' (first|(with_reducible first|refine qtB ?_|refine qfB ?_|refine qt ?_|refine qf ?_)|(simp only [decide_eq_true_eq])|(with_reducible refine Wp.ret ?_)|(with_reducible refine ql ?_)|(with_reducible refine Wp.iteB (fun hc=>?_) (fun hc=>?_))|(with_reducible refine Wp.ite (fun hc=>?_) (fun hc=>?_)))
   exact hI
 unfold fQ88.f
 exact (key t [] (by simpa using h)).bind Ev.ret
theorem impl_Grow_ev (n:Int) (h0:0≤n) (h:n≤1000000000):Ev (fun _=>fQ28.f n) []:=by
 refine Wp.ev ?_
 unfold fQ28.f
 have e1:wrap64 0=0:=by decide+kernel
 have e2:(0:Int) - 0=0:=rfl
 simp only [e2,e1,Int.sub_zero,wrap_id (x:=n) (by omega) (by omega),List.length_replicate,toNatCast]
 repeat' (first|(with_reducible first|refine qtB ?_|refine qfB ?_|refine qt ?_|refine qf ?_)|(simp only [decide_eq_true_eq])|(with_reducible refine Wp.ret ?_)|(with_reducible refine ql ?_)|(with_reducible refine Wp.iteB (fun hc=>?_) (fun hc=>?_))|(with_reducible refine Wp.ite (fun hc=>?_) (fun hc=>?_)))
 rfl
theorem impl_Concat_ev (a b:List Int) (h:a.length+b.length≤1000000000):Ev (fun k=>fQ10.f k [a,b]) (a++b):=by
 refine Wp.ev ?_
 unfold fQ10.f
 have e0:rd_Ls_i64 [a,b] 0=a:=rfl
 have e1:rd_Ls_i64 [a,b] 1=b:=rfl
 have w1:wrap64 (0+1)=1:=by decide+kernel
 have w2:wrap64 (1+1)=2:=by decide+kernel
 have l2:(([a,b]:List (List Int)).length:Int)=2:=rfl
 refine Wp.step (fun k=>by rw [fQ10.l0]) ?_
 rw [l2]
 simp only [e0,w1,wrap_id (x:=0+(a.length:Int)) (by omega) (by omega)]
 repeat' (first|(with_reducible first|refine qtB ?_|refine qfB ?_|refine qt ?_|refine qf ?_)|(simp only [decide_eq_true_eq])|(with_reducible refine Wp.ret ?_)|(with_reducible refine ql ?_)|(with_reducible refine Wp.iteB (fun hc=>?_) (fun hc=>?_))|(with_reducible refine Wp.ite (fun hc=>?_) (fun hc=>?_)))
 refine Wp.step (fun k=>by rw [fQ10.l0]) ?_
 simp only [e1,w2,wrap_id (x:=0+(a.length:Int)+(b.length:Int)) (by omega) (by omega)]
 repeat' (first|(with_reducible first|refine qtB ?_|refine qfB ?_|refine qt ?_|refine qf ?_)|(simp only [decide_eq_true_eq])|(with_reducible refine Wp.ret ?_)|(with_reducible refine ql ?_)|(with_reducible refine Wp.iteB (fun hc=>?_) (fun hc=>?_))|(with_reducible refine Wp.ite (fun hc=>?_) (fun hc=>?_)))
 refine Wp.step (fun k=>by rw [fQ10.l0]) ?_
 repeat' (first|(with_reducible first|refine qtB ?_|refine qfB ?_|refine qt ?_|refine qf ?_)|(with_reducible refine Wp.bindE (impl_Grow_ev _ (by omega) (by omega)) ?_)|(simp only [decide_eq_true_eq])|(with_reducible refine Wp.ret ?_)|(with_reducible refine ql ?_)|(with_reducible refine Wp.iteB (fun hc=>?_) (fun hc=>?_))|(with_reducible refine Wp.ite (fun hc=>?_) (fun hc=>?_)))
 rw [l2]
 refine Wp.step (fun k=>by rw [fQ10.l1]) ?_
 simp only [e0,w1,List.nil_append,List.length_nil]
 repeat' (first|(with_reducible first|refine qtB ?_|refine qfB ?_|refine qt ?_|refine qf ?_)|(refine Wp.itet (by omega) ?_)|(simp only [decide_eq_true_eq])|(with_reducible refine Wp.ret ?_)|(with_reducible refine ql ?_)|(with_reducible refine Wp.iteB (fun hc=>?_) (fun hc=>?_))|(with_reducible refine Wp.ite (fun hc=>?_) (fun hc=>?_)))
 refine Wp.step (fun k=>by rw [fQ10.l1]) ?_
 simp only [e1,w2]
 repeat' (first|(with_reducible first|refine qtB ?_|refine qfB ?_|refine qt ?_|refine qf ?_)|(refine Wp.itet (by omega) ?_)|(simp only [decide_eq_true_eq])|(with_reducible refine Wp.ret ?_)|(with_reducible refine ql ?_)|(with_reducible refine Wp.iteB (fun hc=>?_) (fun hc=>?_))|(with_reducible refine Wp.ite (fun hc=>?_) (fun hc=>?_)))
 refine Wp.step (fun k=>by rw [fQ10.l1]) ?_
 repeat' (first|(with_reducible first|refine qtB ?_|refine qfB ?_|refine qt ?_|refine qf ?_)|(simp only [decide_eq_true_eq])|(with_reducible refine Wp.ret ?_)|(with_reducible refine ql ?_)|(with_reducible refine Wp.iteB (fun hc=>?_) (fun hc=>?_))|(with_reducible refine Wp.ite (fun hc=>?_) (fun hc=>?_)))
theorem impl_ClauseVars_ev (c:List I_Lit) (h:szC c≤100000000):Ev (fun k=>fQ23.f k c) (varsC c):=by
 have hl:=szC_len c
 unfold fQ23.f
 refine Wp.ev (Wp.each1 c zI_Lit (by omega) (fun k i a=>fQ23.l0 k a c c.length i) (fun p a=>a=varsC p) ?_ ?_ [] rfl)
 ·intro p x q a e m hn hr hw hI ih
  refine Wp.step (fun k=>by rw [fQ23.l0]) ?_
  have r1:rd_I_Lit c (p.length:Int)=x:=hr
  have h1:=varsC_len p
  have h2:szC c=szC p+(szL x+szC q):=by rw [e,szC_app,szC]
  have h3:szL x=sz x.f1+sz x.f2:=rfl
  have h4:=varsT_len x.f1 []
  have h5:=varsT_len x.f2 []
  have h6:=varsT_len x.f1 (varsC p)
  have h7:=varsT_len x.f2 (varsT x.f1 (varsC p))
  simp only [List.length_nil] at h4 h5
  simp only [hw.e,r1]
  repeat' (first|(with_reducible first|refine qtB ?_|refine qfB ?_|refine qt ?_|refine qf ?_)|(with_reducible refine Wp.bindE (impl_VarsOf_ev x.f1 (by omega)) ?_)|(with_reducible refine Wp.bindE (impl_VarsOf_ev x.f2 (by omega)) ?_)|(with_reducible refine Wp.bindE (impl_Concat_ev _ _ (by omega)) ?_)|(simp only [decide_eq_true_eq])|(with_reducible refine Wp.ret ?_)|(with_reducible refine ql ?_)|(with_reducible refine Wp.iteB (fun hc=>?_) (fun hc=>?_))|(with_reducible refine Wp.ite (fun hc=>?_) (fun hc=>?_)))
  have hlen:(varsT x.f1 []++varsT x.f2 []).length≤1000000+200000000:=by rw [List.length_append];omega
  have hend:(varsT x.f1 []++varsT x.f2 []).foldl numAdd (varsC p)=varsC (p++[x]):=by
   rw [List.foldl_append,varsT_acc x.f1 (varsC_inc p),varsT_acc x.f2 (varsT_inc _ (varsC_inc p)),varsC_snoc]
  generalize varsT x.f1 []++varsT x.f2 []=l at hlen hend⊢
  have fl:∀l a:List Int,(l.foldl numAdd a).length≤a.length+l.length:=by
   intro l
   induction l with
   | nil=>intro a;simp
   | cons y l ihl=>intro a;have:=ihl (numAdd a y);have:=numAdd_len a y;rw [List.foldl_cons,List.length_cons];omega
  refine Wp.each1 l 0 (by omega) (fun k i a=>fQ23.l1 k a c c.length p.length l l.length i) (fun p' a=>a=p'.foldl numAdd (varsC p)) ?_ ?_ a hI
  ·intro p' y q' a' e' m' hn' hr' hw' hI' ih'
   refine Wp.step (fun k=>by rw [fQ23.l1]) ?_
   have r2:rd l (p'.length:Int)=y:=hr'
   have:=fl p' (varsC p)
   simp only [hw'.e,r2]
   repeat' (first|(with_reducible first|refine qtB ?_|refine qfB ?_|refine qt ?_|refine qf ?_)|(with_reducible refine Wp.bindE (impl_NumAdd_ev a' y (by rw [hI'];omega)) ?_)|(exact ih' _ (by rw [List.foldl_append,←hI'];rfl))|(simp only [decide_eq_true_eq])|(with_reducible refine Wp.ret ?_)|(with_reducible refine ql ?_)|(with_reducible refine Wp.iteB (fun hc=>?_) (fun hc=>?_))|(with_reducible refine Wp.ite (fun hc=>?_) (fun hc=>?_)))
  ·intro a' hI'
   refine Wp.step (fun k=>by rw [fQ23.l1]) ?_
   simp only [hw.e]
   repeat' (first|(with_reducible first|refine qtB ?_|refine qfB ?_|refine qt ?_|refine qf ?_)|(exact ih _ (by rw [hI',hend]))|(simp only [decide_eq_true_eq])|(with_reducible refine Wp.ret ?_)|(with_reducible refine ql ?_)|(with_reducible refine Wp.iteB (fun hc=>?_) (fun hc=>?_))|(with_reducible refine Wp.ite (fun hc=>?_) (fun hc=>?_)))
 ·intro a hI
  refine Wp.step (fun k=>by rw [fQ23.l0]) ?_
  repeat' (first|(with_reducible first|refine qtB ?_|refine qfB ?_|refine qt ?_|refine qf ?_)|(simp only [decide_eq_true_eq])|(with_reducible refine Wp.ret ?_)|(with_reducible refine ql ?_)|(with_reducible refine Wp.iteB (fun hc=>?_) (fun hc=>?_))|(with_reducible refine Wp.ite (fun hc=>?_) (fun hc=>?_)))
  exact hI
theorem impl_compare_ev (a:I_Term):sz a≤1000000000→∀b:I_Term,Ev (fun k=>fQ21.f k a.f0 a.f1 a.f2 b.f0 b.f1 b.f2) (ordI (cmpT a b)):=by
 induction a using tInd with
 | h a ih=>
 intro hs b
 have hlen:=sz_kids a
 refine Wp.ev ?_
 refine Wp.step (fun k=>by rw [fQ21.f]) ?_
 rw [cmpT_eq,ord_nat,ord_int,ord_int,ord_int]
 have w0:wrap64 (0+1)=1:=by decide+kernel
 have w1:wrap64 (1+1)=2:=by decide+kernel
 have w2:wrap64 (2+1)=3:=by decide+kernel
 have r0:∀x y z:A2_i64,rd_A2_i64 [x,y,z] 0=x:=fun _ _ _=>rfl
 have r1:∀x y z:A2_i64,rd_A2_i64 [x,y,z] 1=y:=fun _ _ _=>rfl
 have r2:∀x y z:A2_i64,rd_A2_i64 [x,y,z] 2=z:=fun _ _ _=>rfl
 have l3:∀x y z:A2_i64,(([x,y,z]:List A2_i64).length:Int)=3:=fun _ _ _=>rfl
 rw [l3]
 refine Wp.step (fun k=>by rw [fQ21.l0]) ?_
 simp only [r0,w0,l3]
 repeat' (first|(with_reducible first|refine qtB ?_|refine qfB ?_|refine qt ?_|refine qf ?_)|(simp only [decide_eq_true_eq])|(with_reducible refine Wp.ret ?_)|(with_reducible refine ql ?_)|(with_reducible refine Wp.iteB (fun hc=>?_) (fun hc=>?_))|(with_reducible refine Wp.ite (fun hc=>?_) (fun hc=>?_)))
 ·rw [if_pos (by assumption)];rfl
 ·rw [if_neg (by omega),if_neg (by omega)];rfl
 have e0:a.f0=b.f0:=by omega
 rw [if_neg (by omega),if_pos e0]
 refine Wp.step (fun k=>by rw [fQ21.l0]) ?_
 simp only [r1,w1,l3]
 repeat' (first|(with_reducible first|refine qtB ?_|refine qfB ?_|refine qt ?_|refine qf ?_)|(simp only [decide_eq_true_eq])|(with_reducible refine Wp.ret ?_)|(with_reducible refine ql ?_)|(with_reducible refine Wp.iteB (fun hc=>?_) (fun hc=>?_))|(with_reducible refine Wp.ite (fun hc=>?_) (fun hc=>?_)))
 ·rw [if_pos (by assumption)];rfl
 ·rw [if_neg (by omega),if_neg (by omega)];rfl
 have e1:a.f1=b.f1:=by omega
 rw [if_neg (by omega),if_pos e1]
 refine Wp.step (fun k=>by rw [fQ21.l0]) ?_
 simp only [r2,w2,l3]
 repeat' (first|(with_reducible first|refine qtB ?_|refine qfB ?_|refine qt ?_|refine qf ?_)|(simp only [decide_eq_true_eq])|(with_reducible refine Wp.ret ?_)|(with_reducible refine ql ?_)|(with_reducible refine Wp.iteB (fun hc=>?_) (fun hc=>?_))|(with_reducible refine Wp.ite (fun hc=>?_) (fun hc=>?_)))
 ·rw [if_pos (by assumption)];rfl
 ·rw [if_neg (by omega),if_neg (by omega)];rfl
 have hll:a.f2.length=b.f2.length:=by omega
 rw [if_neg (by omega),if_pos (by omega)]
 refine Wp.step (fun k=>by rw [fQ21.l0]) ?_
 refine Wp.itef (by decide) ?_
 refine Wp.both a.f2 zI_Term b.f2 zI_Term hll (by omega) (fun k i=>fQ21.l1 k a.f2.length i a.f0 a.f1 a.f2 b.f0 b.f1 b.f2) (fun p p'=>p=p') ?_ ?_ rfl
 ·intro p x q p' x' q' e1 e2 hp m m' hn hr hr' hw hI ih2
  refine Wp.step (fun k=>by rw [fQ21.l1]) ?_
  have ihx:=ih x m (by have:=sz_kid m;omega) x'
  have r1:rd_I_Term a.f2 (p.length:Int)=x:=hr
  have r2:rd_I_Term b.f2 (p.length:Int)=x':=hr'
  simp only [hw.e,r1,r2]
  repeat' (first|(with_reducible first|refine qtB ?_|refine qfB ?_|refine qt ?_|refine qf ?_)|(with_reducible refine Wp.bindE (ihx) ?_)|(simp only [decide_eq_true_eq])|(with_reducible refine Wp.ret ?_)|(with_reducible refine ql ?_)|(with_reducible refine Wp.iteB (fun hc=>?_) (fun hc=>?_))|(with_reducible refine Wp.ite (fun hc=>?_) (fun hc=>?_)))
  ·have:cmpT x x'=.eq:=by cases h:cmpT x x' <;> rw [h] at hc <;> first | rfl | exact absurd hc (by decide)
   exact ih2 (by rw [hI,cmpT_same.1 this])
  ·rw [e1,e2,hI,cmpTs_pre,cmpTs]
   cases h:cmpT x x' <;> rw [h] at hc <;> first | rfl | exact absurd rfl hc
 ·intro hI
  refine Wp.step (fun k=>by rw [fQ21.l1]) ?_
  repeat' (first|(with_reducible first|refine qtB ?_|refine qfB ?_|refine qt ?_|refine qf ?_)|(simp only [decide_eq_true_eq])|(with_reducible refine Wp.ret ?_)|(with_reducible refine ql ?_)|(with_reducible refine Wp.iteB (fun hc=>?_) (fun hc=>?_))|(with_reducible refine Wp.ite (fun hc=>?_) (fun hc=>?_)))
  have:=cmpTs_pre b.f2 [] []
  rw [List.append_nil,cmpTs] at this
  rw [hI,this];rfl
theorem ordI_lt (o:Ordering):decide (ordI o<0)=(o==.lt):=by cases o <;> rfl
theorem impl_Before_ev (a b:I_Term) (h:sz a≤1000000000):Ev (fun k=>fQ83.f k a.f0 a.f1 a.f2 b.f0 b.f1 b.f2) (bef a b):=by
 unfold fQ83.f
 exact ((impl_compare_ev a h b).bind Ev.ret).val (ordI_lt _)
theorem impl_Parts_ev (t:I_Term) (h:sz t≤1000000000):Ev (fun k=>fQ95.f k t.f0 t.f1 t.f2) (sz t:Int):=by
 have key:∀t:I_Term,∀n:Nat,n+sz t≤1000000000→Ev (fun k=>fQ11.f k t.f0 t.f1 t.f2 n) ((n+sz t:Nat):Int):=by
  intro t
  induction t using tInd with
  | h t ih=>
  intro n h
  have hlen:=sz_kids t
  have hsz:=sz_eq t
  refine Wp.ev ?_
  refine Wp.step (fun k=>by rw [fQ11.f]) ?_
  simp only [fQ55.f,Option.bind_some,wrap_id (x:=(n:Int)+1) (by omega) (by omega)]
  refine Wp.each1 t.f2 zI_Term (by omega) (fun k i a=>fQ11.l0 k t.f2 t.f2.length i a) (fun p a=>a=((n+1+szs p:Nat):Int)) ?_ ?_ _ (by simp [szs])
  ·intro p x q a e m hn hr hw hI jh
   refine Wp.step (fun k=>by rw [fQ11.l0]) ?_
   have r1:rd_I_Term t.f2 (p.length:Int)=x:=hr
   have h2:szs t.f2=szs p+(sz x+szs q):=by rw [e,szs_append,szs]
   subst hI
   simp only [hw.e,r1]
   repeat' (first|(with_reducible first|refine qtB ?_|refine qfB ?_|refine qt ?_|refine qf ?_)|(with_reducible refine Wp.bindE (ih x m _ (by omega)) ?_)|(exact jh _ (by rw [szs_append,szs,szs];omega))|(simp only [decide_eq_true_eq])|(with_reducible refine Wp.ret ?_)|(with_reducible refine ql ?_)|(with_reducible refine Wp.iteB (fun hc=>?_) (fun hc=>?_))|(with_reducible refine Wp.ite (fun hc=>?_) (fun hc=>?_)))
  ·intro a hI
   refine Wp.step (fun k=>by rw [fQ11.l0]) ?_
   repeat' (first|(with_reducible first|refine qtB ?_|refine qfB ?_|refine qt ?_|refine qf ?_)|(simp only [decide_eq_true_eq])|(with_reducible refine Wp.ret ?_)|(with_reducible refine ql ?_)|(with_reducible refine Wp.iteB (fun hc=>?_) (fun hc=>?_))|(with_reducible refine Wp.ite (fun hc=>?_) (fun hc=>?_)))
   rw [hI];omega
 unfold fQ95.f
 have:=key t 0 (by omega)
 rw [Nat.zero_add] at this
 exact this.bind Ev.ret
def KidOk (s:List I_Sym) (f:Int) (l:List I_Term) (i:Nat):Prop:=(rd_I_Sym s f).f2=true→(rd_I_Term l i).f0≠f∧(0<i→bef (rd_I_Term l i) (rd_I_Term l ((i:Int) - 1))=false)
def RowT (s:List I_Sym) (t:I_Term):Prop:=(t.f0= -1∧(0≤t.f1∧t.f1≤99)∧t.f2.length=0)∨(t.f0≠-1∧(0≤t.f0∧t.f0<(s.length:Int))∧t.f1=0∧((rd_I_Sym s t.f0).f2=false→(t.f2.length:Int)=(rd_I_Sym s t.f0).f1)∧((rd_I_Sym s t.f0).f2=true→2≤t.f2.length)∧∀i,i<t.f2.length→KidOk s t.f0 t.f2 i)
inductive FormOk (s:List I_Sym):I_Term→Prop
 | mk (t:I_Term):RowT s t→(∀x∈t.f2,FormOk s x)→FormOk s t
theorem FormOk.row {s:List I_Sym} {t:I_Term} (h:FormOk s t):RowT s t:=by cases h;assumption
theorem FormOk.kid {s:List I_Sym} {t:I_Term} (h:FormOk s t):∀x∈t.f2,FormOk s x:=by cases h;assumption
theorem rdTerm_mem {l:List I_Term} {i:Int} (h0:0≤i) (h1:i<(l.length:Int)):rd_I_Term l i∈l:=rdOf_mem (z:=zI_Term) h0 h1
theorem rdTerm_all {l:List I_Term} {Q:I_Term→Prop} (h:∀i:Nat,i<l.length→Q (rd_I_Term l i)):∀x∈l,Q x:=by
 intro x hx
 obtain ⟨i,hi,rfl⟩:=List.getElem_of_mem hx
 have e:rd_I_Term l i=l[i]:=by
  show l.getD i zI_Term=_
  rw [List.getD_eq_getElem?_getD,List.getElem?_eq_getElem hi];rfl
 exact e▸h i hi
theorem impl_isSym_ev (s:List I_Sym) (hs:Names s) (f:Int):Ev (fun _=>fQ75.f s f) (B (0≤f∧f<(s.length:Int))):=by
 have h1:=hs.1
 unfold fQ75.f
 rw [wrap_id (x:=(s.length:Int) - 1) (by omega) (by omega)]
 exact ((impl_from_ev _ _ _).bind Ev.ret).val (B_congr (by omega))
theorem formOk_iff {s:List I_Sym} {t:I_Term} (h:t.f0≠-1) (h1:0≤t.f0∧t.f0<(s.length:Int)) (h2:t.f1=0) (h3:(rd_I_Sym s t.f0).f2=false→(t.f2.length:Int)=(rd_I_Sym s t.f0).f1) (h4:(rd_I_Sym s t.f0).f2=true→2≤t.f2.length):((∀i,i<t.f2.length→FormOk s (rd_I_Term t.f2 i)∧KidOk s t.f0 t.f2 i)∧True)↔FormOk s t:=by
 constructor
 ·rintro ⟨k,_⟩
  exact .mk t (.inr ⟨h,h1,h2,h3,h4,fun i hi=>(k i hi).2⟩) (rdTerm_all fun i hi=>(k i hi).1)
 ·intro k
  refine ⟨fun i hi=>⟨k.kid _ (rdTerm_mem (by omega) (by omega)),?_⟩,trivial⟩
  rcases k.row with r | r
  ·exact absurd r.1 h
  ·exact r.2.2.2.2.2 i hi
theorem impl_formOk_ev (s:List I_Sym) (hs:Names s) (t:I_Term):sz t≤1000000000→Ev (fun k=>fQ35.f k s t.f0 t.f1 t.f2) (B (FormOk s t)):=by
 induction t using tInd with
 | h t ih=>
 intro h
 have hlen:=sz_kids t
 refine Wp.ev ?_
 refine Wp.step (fun k=>by rw [fQ35.f]) ?_
 have loop:t.f0≠-1→(0≤t.f0∧t.f0<(s.length:Int))→t.f1=0→((rd_I_Sym s t.f0).f2=false→(t.f2.length:Int)=(rd_I_Sym s t.f0).f1)→((rd_I_Sym s t.f0).f2=true→2≤t.f2.length)→Wp (fun k=>fQ35.l0 k s t.f2 t.f2.length 0 t.f0 t.f1 t.f2) (fun r=>r=B (FormOk s t)):=by
  intro h0 h1 h2 h3 h4
  refine (Wp.all (Φ:=fun i=>FormOk s (rd_I_Term t.f2 i)∧KidOk s t.f0 t.f2 i) (Ψ:=True) t.f2.length (by omega) (fun k i=>fQ35.l0 k s t.f2 t.f2.length i t.f0 t.f1 t.f2) ?_ ?_).wp (B_congr (formOk_iff h0 h1 h2 h3 h4))
  ·intro i P hi hw hT hF
   refine Wp.step (fun k=>by rw [fQ35.l0]) ?_
   have m:=rdTerm_mem (l:=t.f2) (i:=i) (by omega) (by omega)
   have hx:=sz_kid m
   have e1:0<i→wrap64 ((i:Int) - 1)=(i:Int) - 1:=fun _=>wrap_id (by omega) (by omega)
   simp only [hw.e]
   repeat' (first|(with_reducible first|refine qtB ?_|refine qfB ?_|refine qt ?_|refine qf ?_)|(with_reducible refine Wp.bindE (ih _ m (by omega)) ?_)|(rw [e1 (by omega)])|(with_reducible refine Wp.bindE (impl_Before_ev _ _ (by omega)) ?_)|(simp only [decide_eq_true_eq])|(with_reducible refine Wp.ret ?_)|(with_reducible refine ql ?_)|(with_reducible refine Wp.iteB (fun hc=>?_) (fun hc=>?_))|(with_reducible refine Wp.ite (fun hc=>?_) (fun hc=>?_)))
   all_goals first | exact hT ⟨by assumption,by unfold KidOk;intro h5;simp_all;try omega⟩ | exact hF (by unfold KidOk;rintro ⟨h5,h6⟩;simp_all;try omega)
  ·intro _
   refine Wp.step (fun k=>by rw [fQ35.l0]) ?_
   refine Wp.itef (by omega) (Wp.ret ?_)
   rw [eqB];simp
 repeat' (first|(with_reducible first|refine qtB ?_|refine qfB ?_|refine qt ?_|refine qf ?_)|(with_reducible refine Wp.bindE (impl_isVar_ev _ _ _) ?_)|(with_reducible refine Wp.bindE (impl_from_ev _ _ _) ?_)|(with_reducible refine Wp.bindE (impl_isSym_ev s hs _) ?_)|(exact loop (by assumption) (by assumption) (by assumption) (by simp_all) (by simp_all;try omega))|(simp only [decide_eq_true_eq])|(with_reducible refine Wp.ret ?_)|(with_reducible refine ql ?_)|(with_reducible refine Wp.iteB (fun hc=>?_) (fun hc=>?_))|(with_reducible refine Wp.ite (fun hc=>?_) (fun hc=>?_)))
 all_goals (rw [eqB];constructor)
 all_goals first | (intro h5;simp_all;done) | skip
 ·intro h5
  simp only [decide_eq_true_eq] at h5
  refine .mk t (.inl ⟨by assumption,by assumption,by omega⟩) ?_
  have:t.f2=[]:=List.length_eq_zero_iff.1 (by omega)
  rw [this];intro x hx;cases hx
 all_goals (intro h5;rcases h5.row with r | r <;> simp_all <;> omega)
def TermOk (s:List I_Sym) (t:I_Term):Prop:=SigOk s∧(sz t:Int)≤60∧FormOk s t
theorem impl_TermOk_ev (s:List I_Sym) (hs:Names s) (t:I_Term) (h:sz t≤1000000000):Ev (fun k=>fQ87.f k s t.f0 t.f1 t.f2) (B (TermOk s t)):=by
 refine Wp.ev ?_
 unfold fQ87.f
 repeat' (first|(with_reducible first|refine qtB ?_|refine qfB ?_|refine qt ?_|refine qf ?_)|(with_reducible refine Wp.bindE (impl_SigOk_ev s hs) ?_)|(with_reducible refine Wp.bindE (impl_Parts_ev t h) ?_)|(with_reducible refine Wp.bindE (impl_formOk_ev s hs t h) ?_)|(simp only [decide_eq_true_eq])|(with_reducible refine Wp.ret ?_)|(with_reducible refine ql ?_)|(with_reducible refine Wp.iteB (fun hc=>?_) (fun hc=>?_))|(with_reducible refine Wp.ite (fun hc=>?_) (fun hc=>?_)))
 ·exact B_congr ⟨fun h=>⟨by assumption,by assumption,h⟩,fun h=>h.2.2⟩
 ·rw [eqB];unfold TermOk;grind
 ·rw [eqB];unfold TermOk;grind
def LitOk (s:List I_Sym) (l:I_Lit):Prop:=TermOk s l.f1∧TermOk s l.f2∧bef l.f1 l.f2=false
theorem impl_LitOk_ev (s:List I_Sym) (hs:Names s) (l:I_Lit) (h:szL l≤1000000000):Ev (fun k=>fQ91.f k s l.f0 l.f1.f0 l.f1.f1 l.f1.f2 l.f2.f0 l.f2.f1 l.f2.f2) (B (LitOk s l)):=by
 have h1:sz l.f1≤1000000000:=by unfold szL at h;omega
 have h2:sz l.f2≤1000000000:=by unfold szL at h;omega
 refine Wp.ev ?_
 unfold fQ91.f
 repeat' (first|(with_reducible first|refine qtB ?_|refine qfB ?_|refine qt ?_|refine qf ?_)|(with_reducible refine Wp.bindE (impl_TermOk_ev s hs l.f1 h1) ?_)|(with_reducible refine Wp.bindE (impl_TermOk_ev s hs l.f2 h2) ?_)|(with_reducible refine Wp.bindE (impl_Before_ev _ _ h1) ?_)|(simp only [decide_eq_true_eq])|(with_reducible refine Wp.ret ?_)|(with_reducible refine ql ?_)|(with_reducible refine Wp.iteB (fun hc=>?_) (fun hc=>?_))|(with_reducible refine Wp.ite (fun hc=>?_) (fun hc=>?_)))
 all_goals (rw [eqB];unfold LitOk;grind)
theorem impl_compareLits_ev (a b:I_Lit) (h:szL a≤1000000000):Ev (fun k=>fQ67.f k a.f0 a.f1.f0 a.f1.f1 a.f1.f2 a.f2.f0 a.f2.f1 a.f2.f2 b.f0 b.f1.f0 b.f1.f1 b.f1.f2 b.f2.f0 b.f2.f1 b.f2.f2) (ordI (cmpL a b)):=by
 have h1:sz a.f1≤1000000000:=by unfold szL at h;omega
 have h2:sz a.f2≤1000000000:=by unfold szL at h;omega
 refine Wp.ev ?_
 unfold fQ67.f cmpL
 repeat' (first|(with_reducible first|refine qtB ?_|refine qfB ?_|refine qt ?_|refine qf ?_)|(with_reducible refine Wp.bindE (impl_compare_ev a.f1 h1 b.f1) ?_)|(with_reducible refine Wp.bindE (impl_compare_ev a.f2 h2 b.f2) ?_)|(simp only [decide_eq_true_eq])|(with_reducible refine Wp.ret ?_)|(with_reducible refine ql ?_)|(with_reducible refine Wp.iteB (fun hc=>?_) (fun hc=>?_))|(with_reducible refine Wp.ite (fun hc=>?_) (fun hc=>?_)))
 all_goals (cases ha:a.f0 <;> cases hb:b.f0 <;> simp_all [cmpB,ordI,Ordering.then])
 all_goals (cases h3:cmpT a.f1 b.f1 <;> simp_all [ordI])
theorem impl_LitBefore_ev (a b:I_Lit) (h:szL a≤1000000000):Ev (fun k=>fQ77.f k a.f0 a.f1.f0 a.f1.f1 a.f1.f2 a.f2.f0 a.f2.f1 a.f2.f2 b.f0 b.f1.f0 b.f1.f1 b.f1.f2 b.f2.f0 b.f2.f1 b.f2.f2) (litBef a b):=by
 unfold fQ77.f
 exact ((impl_compareLits_ev a b h).bind Ev.ret).val (ordI_lt _)
def LitRow (s:List I_Sym) (c:List I_Lit) (i:Nat):Prop:=LitOk s (rd_I_Lit c i)∧(0<i→litBef (rd_I_Lit c ((i:Int) - 1)) (rd_I_Lit c i)=true)
def ClauseOk (s:List I_Sym) (c:List I_Lit):Prop:=(∀i,i<c.length→LitRow s c i)∧(c.length:Int)≤8
theorem rdLit_mem {l:List I_Lit} {i:Int} (h0:0≤i) (h1:i<(l.length:Int)):rd_I_Lit l i∈l:=rdOf_mem (z:=zI_Lit) h0 h1
theorem impl_ClauseOk_ev (s:List I_Sym) (hs:Names s) (c:List I_Lit) (h:szC c≤1000000000):Ev (fun k=>fQ45.f k s c) (B (ClauseOk s c)):=by
 have hl:=szC_len c
 unfold fQ45.f
 refine Wp.all c.length (by omega) (fun k i=>fQ45.l0 k s c c.length i c) ?_ ?_
 ·intro i P hi hw hT hF
  refine Wp.step (fun k=>by rw [fQ45.l0]) ?_
  have m:=szC_mem (rdLit_mem (l:=c) (i:=i) (by omega) (by omega))
  have m2:0<i→szL (rd_I_Lit c ((i:Int) - 1))≤szC c:=fun _=>szC_mem (rdLit_mem (l:=c) (by omega) (by omega))
  have e1:0<i→wrap64 ((i:Int) - 1)=(i:Int) - 1:=fun _=>wrap_id (by omega) (by omega)
  simp only [hw.e]
  repeat' (first|(with_reducible first|refine qtB ?_|refine qfB ?_|refine qt ?_|refine qf ?_)|(with_reducible refine Wp.bindE (impl_LitOk_ev s hs _ (by omega)) ?_)|(rw [e1 (by omega)])|(with_reducible refine Wp.bindE (impl_LitBefore_ev _ _ (by have:=m2 (by omega);omega)) ?_)|(simp only [decide_eq_true_eq])|(with_reducible refine Wp.ret ?_)|(with_reducible refine ql ?_)|(with_reducible refine Wp.iteB (fun hc=>?_) (fun hc=>?_))|(with_reducible refine Wp.ite (fun hc=>?_) (fun hc=>?_)))
  all_goals first | exact hT (by unfold LitRow;refine ⟨by assumption,fun h5=>?_⟩;first | assumption | omega) | exact hF (by unfold LitRow;rintro ⟨h5,h6⟩;simp_all;try omega)
 ·intro _
  refine Wp.step (fun k=>by rw [fQ45.l0]) ?_
  repeat' (first|(with_reducible first|refine qtB ?_|refine qfB ?_|refine qt ?_|refine qf ?_)|(simp only [decide_eq_true_eq])|(with_reducible refine Wp.ret ?_)|(with_reducible refine ql ?_)|(with_reducible refine Wp.iteB (fun hc=>?_) (fun hc=>?_))|(with_reducible refine Wp.ite (fun hc=>?_) (fun hc=>?_)))
  rw [dec_B]
theorem and_rng (e:Int):0≤bits .and .i64 e 255∧bits .and .i64 e 255≤255:=by
 have h:(BitVec.ofInt 64 e &&& BitVec.ofInt 64 255).toNat≤255:=by
  rw [BitVec.toNat_and,BitVec.toNat_ofInt]
  exact Nat.and_le_right
 have h2:bits .and .i64 e 255=IntKind.i64.wrap (((BitVec.ofInt 64 e &&& BitVec.ofInt 64 255).toNat:Nat):Int):=rfl
 rw [h2,IntKind.wrap_i64]
 omega
structure Cur (b:List Int) (i:Int):Prop where
 i0:0≤i
 ln:b.length≤1048576
theorem spec_l1New_v2_wp (b:List Int) (h:b.length≤1048576):Wp (fun k=>fQ25.f k b) (fun r=>Cur r.1 r.2.1):=by
 unfold fQ25.f
 refine Wp.cnt1 (min b.length 4000) (by omega) (fun k i s=>fQ25.l0 k b s i) (fun i s=>True) ?_ ?_ _ trivial
 ·intro i s hi hw _ ih
  refine Wp.step (fun k=>by rw [fQ25.l0]) ?_
  simp only [hw.e]
  repeat' (first|(with_reducible first|refine qtB ?_|refine qfB ?_|refine qt ?_|refine qf ?_)|(exact ih _ trivial)|(simp only [decide_eq_true_eq])|(with_reducible refine Wp.ret ?_)|(with_reducible refine ql ?_)|(with_reducible refine Wp.iteB (fun hc=>?_) (fun hc=>?_))|(with_reducible refine Wp.ite (fun hc=>?_) (fun hc=>?_)))
 ·intro s _
  refine Wp.step (fun k=>by rw [fQ25.l0]) ?_
  repeat' (first|(with_reducible first|refine qtB ?_|refine qfB ?_|refine qt ?_|refine qf ?_)|(simp only [decide_eq_true_eq])|(with_reducible refine Wp.ret ?_)|(with_reducible refine ql ?_)|(with_reducible refine Wp.iteB (fun hc=>?_) (fun hc=>?_))|(with_reducible refine Wp.ite (fun hc=>?_) (fun hc=>?_)))
  all_goals exact ⟨Int.le_refl _,h⟩
theorem spec_l1Byte_v2_wp {b:List Int} {i:Int} (h:Int) (hc:Cur b i):Wp (fun _=>fQ42.f b i h) (fun r=>(0≤r.1∧r.1≤255)∧Cur r.2.1 r.2.2.1):=by
 obtain ⟨h0,h1⟩:=hc
 unfold fQ42.f
 repeat' (first|(with_reducible first|refine qtB ?_|refine qfB ?_|refine qt ?_|refine qf ?_)|(simp only [decide_eq_true_eq])|(with_reducible refine Wp.ret ?_)|(with_reducible refine ql ?_)|(with_reducible refine Wp.iteB (fun hc=>?_) (fun hc=>?_))|(with_reducible refine Wp.ite (fun hc=>?_) (fun hc=>?_)))
 ·refine ⟨and_rng _,?_,h1⟩
  show 0≤wrap64 (i+1)
  rw [wrap_id (by omega) (by omega)];omega
 ·exact ⟨and_rng _,h0,h1⟩
theorem tmod_rng0 {x n:Int} (h:0≤x) (hn:0<n):0≤x.tmod n∧x.tmod n<n:=by
 rw [Int.tmod_eq_emod_of_nonneg h]
 exact ⟨Int.emod_nonneg _ (by omega),Int.emod_lt_of_pos _ hn⟩
theorem spec_l1Below_v2_wp (n:Int) {b:List Int} {i:Int} (h:Int) (hc:Cur b i):Wp (fun _=>fQ16.f n b i h) (fun r=>(0≤r.1∧(r.1<n∨(n≤0∧r.1=0)))∧Cur r.2.1 r.2.2.1):=by
 unfold fQ16.f
 refine Wp.ite (fun hn=>Wp.ret ⟨⟨Int.le_refl _,.inr ⟨hn,rfl⟩⟩,hc⟩) (fun hn=>Wp.ite (fun h2=>?_) (fun h2=>?_))
 ·refine Wp.bind (spec_l1Byte_v2_wp _ hc) (fun r hr=>Wp.itef (by omega) (Wp.ret ⟨?_,hr.2⟩))
  have:=tmod_rng0 hr.1.1 (n:=n) (by omega)
  exact ⟨this.1,.inl this.2⟩
 ·refine Wp.bind (spec_l1Byte_v2_wp _ hc) (fun r hr=>Wp.bind (spec_l1Byte_v2_wp _ hr.2) (fun s hs=>Wp.bind (spec_l1Byte_v2_wp _ hs.2) (fun t ht=>Wp.bind (spec_l1Byte_v2_wp _ ht.2) (fun u hu=>Wp.itef (by omega) (Wp.ret ⟨?_,hu.2⟩)))))
  have r1:=hr.1;have s1:=hs.1;have t1:=ht.1;have u1:=hu.1
  rw [wrap_id (x:=r.1*16777216) (by omega) (by omega),wrap_id (x:=s.1*65536) (by omega) (by omega),wrap_id (x:=t.1*256) (by omega) (by omega),wrap_id (x:=r.1*16777216+s.1*65536) (by omega) (by omega),wrap_id (x:=r.1*16777216+s.1*65536+t.1*256) (by omega) (by omega),wrap_id (x:=r.1*16777216+s.1*65536+t.1*256+u.1) (by omega) (by omega)]
  have:=tmod_rng0 (x:=r.1*16777216+s.1*65536+t.1*256+u.1) (by omega) (n:=n) (by omega)
  exact ⟨this.1,.inl this.2⟩
theorem spec_l1Once_v2_wp (n:Int) {b:List Int} {i:Int} (h:Int) (hc:Cur b i):Wp (fun _=>fQ53.f n b i h) (fun r=>Cur r.2.1 r.2.2.1):=by
 unfold fQ53.f
 exact Wp.bind (spec_l1Below_v2_wp n h hc) (fun r hr=>Wp.ret hr.2)
theorem spec_l1PickInt_v2_wp (l:List Int) (hl:l≠[]) {b:List Int} {i:Int} (h:Int) (hc:Cur b i):Wp (fun _=>fQ46.f l b i h) (fun r=>r.1∈l∧Cur r.2.1 r.2.2.1):=by
 unfold fQ46.f
 have hp:0<l.length:=List.length_pos_iff.2 hl
 refine Wp.bind (spec_l1Below_v2_wp _ h hc) (fun r hr=>?_)
 obtain ⟨⟨a,c⟩,d⟩:=hr
 have e:r.1<(l.length:Int):=by omega
 exact Wp.itet a (Wp.itet e (Wp.ret ⟨rd_mem a e,d⟩))
def Raw (v:Int):Nat→I_Term→Prop
 | 0,t=>(t.f0= -1∧0≤t.f1∧t.f1<v∧t.f2=[])∨((t.f0=1∨t.f0=2)∧t.f1=0∧t.f2=[])
 | d+1,t=>(t.f0= -1∧0≤t.f1∧t.f1<v∧t.f2=[])∨((t.f0=1∨t.f0=2)∧t.f1=0∧t.f2=[])∨(t.f1=0∧((t.f0=3∧∃a,Raw v d a∧t.f2=[a])∨((t.f0=4∨t.f0=5∨t.f0=6)∧∃a b,Raw v d a∧Raw v d b∧t.f2=[a,b])))
theorem Raw.sz {v:Int}:∀{d:Nat} {t:I_Term},Raw v d t→sz t+1≤2 ^ (d+1):=by
 intro d
 induction d with
 | zero=>rintro t (⟨_,_,_,h⟩ | ⟨_,_,h⟩) <;> rw [sz_eq,h,szs] <;> omega
 | succ d ih=>
  have hp:2 ^ (d+1+1)=2*2 ^ (d+1):=by rw [Nat.pow_succ];omega
  have h1:1≤2 ^ (d+1):=Nat.one_le_two_pow
  rintro t (⟨_,_,_,h⟩ | ⟨_,_,h⟩ | ⟨_,⟨_,a,ha,h⟩ | ⟨_,a,b,ha,hb,h⟩⟩) <;> rw [sz_eq,h]
  ·rw [szs];omega
  ·rw [szs];omega
  ·have:=ih ha;simp only [szs];omega
  ·have:=ih ha;have:=ih hb;simp only [szs];omega
theorem Raw.var {v x:Int} {d:Nat} {l:List I_Term} (h:0≤x∧(x<v∨(v≤0∧x=0))) (hv:v>0) (hl:l=[]):Raw v d ⟨-1,x,l⟩:=by
 have h1:x<v:=by omega
 cases d <;> exact .inl ⟨rfl,h.1,h1,hl⟩
theorem Raw.con {v x:Int} {d:Nat} (h:0≤x∧(x<2∨((2:Int)≤0∧x=0))):Raw v d ⟨wrap64 (1+x),0,[]⟩:=by
 have e:wrap64 (1+x)=1+x:=wrap_id (by omega) (by omega)
 rw [e]
 have h2:(1+x=1∨1+x=2)∧(0:Int)=0∧([]:List I_Term)=[]:=⟨by omega,rfl,rfl⟩
 cases d
 ·exact .inr h2
 ·exact .inr (.inl h2)
theorem spec_l3DrawDeep_v2_wp (v:Int):∀(d:Nat) (hd:d≤20) {b:List Int} {i:Int} (h:Int) (hc:Cur b i),Wp (fun k=>fQ31.f k d v b i h) (fun r=>Raw v d ⟨r.1,r.2.1,r.2.2.1⟩∧Cur r.2.2.2.1 r.2.2.2.2.1):=by
 intro d
 induction d with
 | zero=>
  intro _ b i h hc
  refine Wp.step (fun k=>by rw [fQ31.f]) ?_
  refine Wp.itet rfl (Wp.ite (fun hv=>Wp.bind (spec_l1Once_v2_wp 2 h hc) fun r hr=>Wp.ite (fun _=>Wp.bind (spec_l1Below_v2_wp v _ hr) fun s hs=>?_) (fun _=>Wp.bind (spec_l1Below_v2_wp 2 _ hr) fun s hs=>Wp.ret ⟨Raw.con hs.1,hs.2⟩)) (fun hv=>Wp.bind (spec_l1Below_v2_wp 2 _ hc) fun s hs=>Wp.ret ⟨Raw.con hs.1,hs.2⟩))
  exact Wp.bindE (v:=(-1,s.1,[])) Ev.ret (Wp.ret ⟨Raw.var hs.1 hv rfl,hs.2⟩)
 | succ d ih=>
  intro hd b i h hc
  have e:wrap64 (((d+1:Nat):Int) - 1)=(d:Int):=by rw [wrap_id (by omega) (by omega)];omega
  refine Wp.step (fun k=>by rw [fQ31.f]) ?_
  refine Wp.itef (by omega) (Wp.bind (spec_l1Once_v2_wp 3 h hc) fun o ho=>Wp.ite (fun _=>Wp.ite (fun hv=>Wp.bind (spec_l1Once_v2_wp 2 _ ho) fun r hr=>Wp.ite (fun _=>Wp.bind (spec_l1Below_v2_wp v _ hr) fun s hs=>?_) (fun _=>Wp.bind (spec_l1Below_v2_wp 2 _ hr) fun s hs=>Wp.ret ⟨Raw.con hs.1,hs.2⟩)) (fun hv=>Wp.bind (spec_l1Below_v2_wp 2 _ ho) fun s hs=>Wp.ret ⟨Raw.con hs.1,hs.2⟩)) (fun _=>?_))
  ·exact Wp.bindE (v:=(-1,s.1,[])) Ev.ret (Wp.ret ⟨Raw.var hs.1 hv rfl,hs.2⟩)
  ·refine Wp.bind (spec_l1PickInt_v2_wp [3,4,5,5,6] (by simp) _ ho) fun p hp=>?_
   rw [e]
   have hp1:p.1=3∨p.1=4∨p.1=5∨p.1=6:=by have:=hp.1;simp at this;omega
   refine Wp.bind (ih (by omega) _ hp.2) fun x hx=>Wp.ite (fun h3=>Wp.bind (ih (by omega) _ hx.2) fun y hy=>Wp.itet (by simp) (Wp.bindE (v:=(p.1,0,[_,_])) Ev.ret (Wp.ret ⟨?_,hy.2⟩))) (fun h3=>Wp.bindE (v:=(p.1,0,[_])) Ev.ret (Wp.ret ⟨?_,hx.2⟩))
   ·exact .inr (.inr ⟨rfl,.inr ⟨by show p.1=4∨p.1=5∨p.1=6;omega,_,_,hx.1,hy.1,rfl⟩⟩)
   ·exact .inr (.inr ⟨rfl,.inl ⟨by show p.1=3;omega,_,hx.1,rfl⟩⟩)
def sig2:List I_Sym:=[⟨⟨#[116,116]⟩,0,false⟩,⟨⟨#[97]⟩,0,false⟩,⟨⟨#[98]⟩,0,false⟩,⟨⟨#[103]⟩,1,false⟩,⟨⟨#[104]⟩,2,false⟩,⟨⟨#[102]⟩,2,true⟩,⟨⟨#[107]⟩,2,true⟩]
theorem spec_l2Sig_ev:Ev (fun _=>fQ73.f) sig2:=Ev.ret
theorem sig2_names:Names sig2:=by
 refine ⟨by decide,fun x hx=>?_⟩
 simp only [sig2,List.mem_cons,List.not_mem_nil,or_false] at hx
 rcases hx with rfl | rfl | rfl | rfl | rfl | rfl | rfl <;> decide
theorem spec_l3DrawRight_v2_wp (v:Int) {b:List Int} {i:Int} (h:Int) (hc:Cur b i):Wp (fun k=>fQ50.f k v b i h) (fun r=>(∃t,Raw v 2 t∧(⟨r.1,r.2.1,r.2.2.1⟩:I_Term)=norm sig2 t)∧Cur r.2.2.2.1 r.2.2.2.2.1):=by
 unfold fQ50.f
 refine Wp.bindE spec_l2Sig_ev (Wp.bind (spec_l3DrawDeep_v2_wp v 2 (by decide) h hc) fun r hr=>Wp.bindE (spec_Norm_ev sig2 sig2_names ⟨r.1,r.2.1,r.2.2.1⟩ (by have:=Raw.sz hr.1;omega)) (Wp.ret ⟨⟨_,hr.1,?_⟩,hr.2⟩))
 exact tEta _
def RawL (v:Int) (l:I_Lit):Prop:=∃pos a b,Raw v 2 a∧Raw v 2 b∧l=litMake sig2 pos (norm sig2 a) (norm sig2 b)
theorem RawL.sz {v:Int} {l:I_Lit} (h:RawL v l):szL l≤14:=by
 obtain ⟨pos,a,b,ha,hb,rfl⟩:=h
 have:=szL_make sig2 pos (norm sig2 a) (norm sig2 b)
 have:=sz_norm sig2 a
 have:=sz_norm sig2 b
 have:=ha.sz
 have:=hb.sz
 omega
theorem spec_l10DrawRight_v2_wp (v:Int) {b:List Int} {i:Int} (h:Int) (hc:Cur b i):Wp (fun k=>fQ47.f k v b i h) (fun r=>RawL v ⟨r.1,⟨r.2.1,r.2.2.1,r.2.2.2.1⟩,⟨r.2.2.2.2.1,r.2.2.2.2.2.1,r.2.2.2.2.2.2.1⟩⟩∧Cur r.2.2.2.2.2.2.2.1 r.2.2.2.2.2.2.2.2.1):=by
 unfold fQ47.f
 refine Wp.bind (spec_l1Once_v2_wp 3 h hc) fun o ho=>Wp.bind (spec_l3DrawRight_v2_wp v _ ho) fun x hx=>Wp.bind (spec_l3DrawRight_v2_wp v _ hx.2) fun y hy=>Wp.bindE spec_l2Sig_ev ?_
 obtain ⟨⟨a,ra,ea⟩,cx⟩:=hx
 obtain ⟨⟨b',rb,eb⟩,cy⟩:=hy
 have h1:=sz_norm sig2 a
 have h2:=sz_norm sig2 b'
 have h3:=ra.sz
 have h4:=rb.sz
 refine Wp.bindE (spec_LitMake_ev sig2 sig2_names (!o.1) ⟨x.1,x.2.1,x.2.2.1⟩ ⟨y.1,y.2.1,y.2.2.1⟩ (by rw [ea];omega) (by rw [eb];omega)) (Wp.ret ⟨⟨!o.1,a,b',ra,rb,?_⟩,cy⟩)
 rw [ea,eb]
 simp only [tEta]
def posN (v:Int):List Int→Int→Int
 | [],i=>i
 | a::r,i=>if a=v then i else posN v r (i+1)
mutual
def renT (vars:List Int):I_Term→I_Term
 | ⟨f,v,l⟩=>⟨f,if f= -1 then posN v vars 0 else v,renL vars l⟩
def renL (vars:List Int):List I_Term→List I_Term
 | []=>[]
 | t::l=>renT vars t::renL vars l
end
theorem renT_eq (vars:List Int) (t:I_Term):renT vars t=⟨t.f0,if t.f0= -1 then posN t.f1 vars 0 else t.f1,renL vars t.f2⟩:=by cases t;rw [renT]
theorem renL_map (vars:List Int) (l:List I_Term):renL vars l=l.map (renT vars):=by
 induction l with
 | nil=>rw [renL];rfl
 | cons a l ih=>rw [renL,ih];rfl
theorem sz_ren (vars:List Int) (t:I_Term):sz (renT vars t)=sz t:=by
 induction t using tInd with
 | h t ih=>
  have:∀l:List I_Term,(∀x∈l,sz (renT vars x)=sz x)→szs (renL vars l)=szs l:=by
   intro l
   induction l with
   | nil=>intro _;rw [renL]
   | cons a l ihl=>intro h;rw [renL,szs,szs,h a (by simp),ihl (fun x hx=>h x (by simp [hx]))]
  rw [renT_eq,sz_eq,this t.f2 ih,sz_eq t]
theorem posN_app (v:Int) (p q:List Int) (h:v∉p):∀i:Int,posN v (p++q) i=posN v q (i+p.length):=by
 induction p with
 | nil=>intro i;simp
 | cons a p ih=>
  intro i
  rw [List.cons_append,posN,if_neg (fun e=>h (by simp [e])),ih (fun e=>h (by simp [e]))]
  congr 1
  simp;omega
theorem spec_l11Rename_ev (vars:List Int) (hv:vars.length≤1000000000) (t:I_Term):sz t≤1000000000→Ev (fun k=>fQ18.f k t.f0 t.f1 t.f2 vars) ((renT vars t).f0,(renT vars t).f1,(renT vars t).f2):=by
 induction t using tInd with
 | h t ih=>
 intro ht
 have hlen:=sz_kids t
 have kids:∀v1:Int,v1=(renT vars t).f1→∀a b c d:Int,Wp (fun k=>fQ18.l1 k vars 0 t.f0 t.f1 t.f2 a b t.f0 v1 []) (fun r=>r=((renT vars t).f0,(renT vars t).f1,(renT vars t).f2)):=by
  intro v1 e1 a b _ _
  refine Wp.each1 t.f2 zI_Term (by omega) (fun k i o=>fQ18.l1 k vars i t.f0 t.f1 t.f2 a b t.f0 v1 o) (fun p o=>o=renL vars p) ?_ ?_ [] (by rw [renL])
  ·intro p x q o e m hn hr hw hI jh
   refine Wp.step (fun k=>by rw [fQ18.l1]) ?_
   have r1:rd_I_Term t.f2 (p.length:Int)=x:=hr
   have hx:=sz_kid m
   have hol:o.length=p.length:=by rw [hI,renL_map,List.length_map]
   simp only [hw.e,r1]
   repeat' (first|(with_reducible first|refine qtB ?_|refine qfB ?_|refine qt ?_|refine qf ?_)|(with_reducible refine Wp.bindE (ih x m (by omega)) ?_)|(exact jh _ (by rw [hI,renL_map,renL_map,List.map_append,tEta];rfl))|(simp only [decide_eq_true_eq])|(with_reducible refine Wp.ret ?_)|(with_reducible refine ql ?_)|(with_reducible refine Wp.iteB (fun hc=>?_) (fun hc=>?_))|(with_reducible refine Wp.ite (fun hc=>?_) (fun hc=>?_)))
  ·intro o hI
   refine Wp.step (fun k=>by rw [fQ18.l1]) ?_
   repeat' (first|(with_reducible first|refine qtB ?_|refine qfB ?_|refine qt ?_|refine qf ?_)|(simp only [decide_eq_true_eq])|(with_reducible refine Wp.ret ?_)|(with_reducible refine ql ?_)|(with_reducible refine Wp.iteB (fun hc=>?_) (fun hc=>?_))|(with_reducible refine Wp.ite (fun hc=>?_) (fun hc=>?_)))
   rw [hI,e1,renT_eq]
 refine Wp.ev ?_
 refine Wp.step (fun k=>by rw [fQ18.f]) ?_
 refine Wp.ite (fun hf=>?_) (fun hf=>kids _ (by rw [renT_eq];exact (if_neg hf).symm) _ _ 0 0)
 have e1:(renT vars t).f1=posN t.f1 vars 0:=by rw [renT_eq];exact if_pos hf
 refine Wp.each0 vars 0 (by omega) (fun k i=>fQ18.l0 k vars i t.f0 t.f1 t.f2 0 0 t.f0 t.f1) (fun p=>t.f1∉p) ?_ ?_ (by simp)
 ·intro p x q e m hn hr hw hI jh
  refine Wp.step (fun k=>by rw [fQ18.l0]) ?_
  have r1:rd vars (p.length:Int)=x:=hr
  simp only [hw.e,r1]
  have jh2:¬x=t.f1→_:=fun h0=>jh (fun h=>(List.mem_append.1 h).elim hI (fun h=>h0 (List.mem_singleton.1 h).symm))
  repeat' (first|(with_reducible first|refine qtB ?_|refine qfB ?_|refine qt ?_|refine qf ?_)|(exact jh2 hc)|(simp only [decide_eq_true_eq])|(with_reducible refine Wp.ret ?_)|(with_reducible refine ql ?_)|(with_reducible refine Wp.iteB (fun hc=>?_) (fun hc=>?_))|(with_reducible refine Wp.ite (fun hc=>?_) (fun hc=>?_)))
  refine kids _ ?_ _ _ 0 0
  rw [e1,e,posN_app _ p _ hI,posN,if_pos hc,Int.zero_add]
 ·intro hI
  refine Wp.step (fun k=>by rw [fQ18.l0]) ?_
  repeat' (first|(with_reducible first|refine qtB ?_|refine qfB ?_|refine qt ?_|refine qf ?_)|(simp only [decide_eq_true_eq])|(with_reducible refine Wp.ret ?_)|(with_reducible refine ql ?_)|(with_reducible refine Wp.iteB (fun hc=>?_) (fun hc=>?_))|(with_reducible refine Wp.ite (fun hc=>?_) (fun hc=>?_)))
  refine kids _ ?_ _ _ 0 0
  have:=posN_app t.f1 vars [] hI 0
  rw [List.append_nil,posN,Int.zero_add] at this
  rw [e1,this]
noncomputable def tidy (s:List I_Sym) (c:List I_Lit):List I_Lit:=clauseMake s (c.map fun l=>⟨l.f0,renT (varsC c) l.f1,renT (varsC c) l.f2⟩)
theorem szC_map {f:I_Lit→I_Lit} (h:∀l,szL (f l)=szL l) (c:List I_Lit):szC (c.map f)=szC c:=by
 induction c with
 | nil=>rfl
 | cons a c ih=>rw [List.map_cons,szC,szC,ih,h]
theorem szC_tidy (s:List I_Sym) (c:List I_Lit):szC (tidy s c)≤szC c:=by
 have h:=szC_make s (c.map fun l=>⟨l.f0,renT (varsC c) l.f1,renT (varsC c) l.f2⟩)
 rw [szC_map (fun l=>by unfold szL;simp only [sz_ren])] at h
 exact h
theorem spec_Tidy_ev (s:List I_Sym) (hs:Names s) (c:List I_Lit) (h:szC c≤1000000000):Ev (fun k=>spec_Tidy.f k s c) (tidy s c):=by
 have hl:=szC_len c
 have hv:=varsC_len c
 refine Wp.ev ?_
 unfold spec_Tidy.f
 refine Wp.bindE (spec_ClauseVars_ev c h) ?_
 refine Wp.each1 c zI_Lit (by omega) (fun k i o=>spec_Tidy.l0 k s (varsC c) o i c) (fun p o=>o=p.map fun l=>(⟨l.f0,renT (varsC c) l.f1,renT (varsC c) l.f2⟩:I_Lit)) ?_ ?_ [] rfl
 ·intro p x q o e m hn hr hw hI ih
  refine Wp.step (fun k=>by rw [spec_Tidy.l0]) ?_
  have r1:rd_I_Lit c (p.length:Int)=x:=hr
  have hx:=szC_mem m
  have hx2:szL x=sz x.f1+sz x.f2:=rfl
  have hol:o.length=p.length:=by rw [hI,List.length_map]
  simp only [hw.e,r1]
  repeat' (first|(with_reducible first|refine qtB ?_|refine qfB ?_|refine qt ?_|refine qf ?_)|(with_reducible refine Wp.bindE (spec_l11Rename_ev (varsC c) (by omega) x.f1 (by omega)) ?_)|(with_reducible refine Wp.bindE (spec_l11Rename_ev (varsC c) (by omega) x.f2 (by omega)) ?_)|(exact ih _ (by rw [hI,List.map_append,tEta,tEta];rfl))|(simp only [decide_eq_true_eq])|(with_reducible refine Wp.ret ?_)|(with_reducible refine ql ?_)|(with_reducible refine Wp.iteB (fun hc=>?_) (fun hc=>?_))|(with_reducible refine Wp.ite (fun hc=>?_) (fun hc=>?_)))
 ·intro o hI
  refine Wp.step (fun k=>by rw [spec_Tidy.l0]) ?_
  have ho:szC o=szC c:=by rw [hI];exact szC_map (fun l=>by unfold szL;simp only [sz_ren]) c
  repeat' (first|(with_reducible first|refine qtB ?_|refine qfB ?_|refine qt ?_|refine qf ?_)|(with_reducible refine Wp.bindE (spec_ClauseMake_ev s hs o (by omega)) ?_)|(simp only [decide_eq_true_eq])|(with_reducible refine Wp.ret ?_)|(with_reducible refine ql ?_)|(with_reducible refine Wp.iteB (fun hc=>?_) (fun hc=>?_))|(with_reducible refine Wp.ite (fun hc=>?_) (fun hc=>?_)))
  rw [hI];rfl
def RawC (c:List I_Lit):Prop:=∃v l,v<3∧(∀x∈l,RawL v x)∧l.length≤3∧c=tidy sig2 (clauseMake sig2 l)
theorem szC_le {l:List I_Lit} {n:Nat} (h:∀x∈l,szL x≤n):szC l≤l.length*n:=by
 induction l with
 | nil=>simp [szC]
 | cons a l ih=>
  have h1:=h a (by simp)
  have h2:=ih (fun x hx=>h x (by simp [hx]))
  rw [szC,List.length_cons,Nat.add_mul];omega
theorem RawC.sz {c:List I_Lit} (h:RawC c):szC c≤42:=by
 obtain ⟨v,l,_,h,hl,rfl⟩:=h
 have h1:=szC_tidy sig2 (clauseMake sig2 l)
 have h2:=szC_make sig2 l
 have h3:=szC_le (n:=14) (fun x hx=>(h x hx).sz)
 omega
theorem spec_l11DrawRight_v2_wp {b:List Int} {i:Int} (h:Int) (hc:Cur b i):Wp (fun k=>fQ19.f k b i h) (fun r=>RawC r.1∧Cur r.2.1 r.2.2.1):=by
 unfold fQ19.f
 refine Wp.bind (spec_l1Below_v2_wp 3 h hc) fun n hn=>?_
 have loop:∀(d m:Nat),m+d=3→∀(o:List I_Lit) {b:List Int} {i:Int} (h:Int),Cur b i→o.length=m→(∀x∈o,RawL n.1 x)→Wp (fun k=>fQ19.l0 k o n.1 m b i h) (fun r=>RawC r.1∧Cur r.2.1 r.2.2.1):=by
  intro d
  induction d with
  | zero=>
   intro m hm o b i h hc ho hx
   refine Wp.step (fun k=>by rw [fQ19.l0]) ?_
   refine Wp.bind (spec_l1Below_v2_wp 3 h hc) fun r hr=>?_
   have hr1:=hr.1
   rw [wrap_id (x:=1+r.1) (by omega) (by omega)]
   have h3:=szC_le (n:=14) (fun x hy=>(hx x hy).sz)
   have h2:=szC_make sig2 o
   exact Wp.itef (by omega) (Wp.bindE spec_l2Sig_ev (Wp.bindE spec_l2Sig_ev (Wp.bindE (spec_ClauseMake_ev sig2 sig2_names o (by omega)) (Wp.bindE (spec_Tidy_ev sig2 sig2_names _ (by omega)) (Wp.ret ⟨⟨n.1,o,by omega,hx,by omega,rfl⟩,hr.2⟩)))))
  | succ d ih=>
   intro m hm o b i h hc ho hx
   refine Wp.step (fun k=>by rw [fQ19.l0]) ?_
   refine Wp.bind (spec_l1Below_v2_wp 3 h hc) fun r hr=>?_
   have hr1:=hr.1
   rw [wrap_id (x:=1+r.1) (by omega) (by omega),wrap_id (x:=(m:Int)+1) (by omega) (by omega)]
   have h3:=szC_le (n:=14) (fun x hy=>(hx x hy).sz)
   have h2:=szC_make sig2 o
   refine Wp.ite (fun hlt=>Wp.bind (spec_l10DrawRight_v2_wp n.1 _ hr.2) fun y hy=>Wp.itet (by simp;omega) ?_) (fun _=>Wp.bindE spec_l2Sig_ev (Wp.bindE spec_l2Sig_ev (Wp.bindE (spec_ClauseMake_ev sig2 sig2_names o (by omega)) (Wp.bindE (spec_Tidy_ev sig2 sig2_names _ (by omega)) (Wp.ret ⟨⟨n.1,o,by omega,hx,by omega,rfl⟩,hr.2⟩)))))
   exact ih (m+1) (by omega) _ _ hy.2 (by simp [ho]) (snocAll hx hy.1)
 exact loop 3 0 rfl [] _ hn.2 rfl (by simp)
theorem spec_DrawTidyClause_wp (b:List Int) (h:b.length≤1048576):Wp (fun k=>fQ71.f k b) RawC:=by
 unfold fQ71.f
 exact Wp.bind (spec_l1New_v2_wp b h) fun r hr=>Wp.bind (spec_l11DrawRight_v2_wp _ hr) fun s hs=>Wp.ret hs.1
theorem sig2_ars:∀x∈sig2,0≤x.f1∧x.f1≤3∧(x.f2=true→x.f1=2):=by
 intro x hx
 simp only [sig2,List.mem_cons,List.not_mem_nil,or_false] at hx
 rcases hx with rfl | rfl | rfl | rfl | rfl | rfl | rfl <;> decide
theorem impl_Blind_ev (s:List I_Sym) (hs:Names s) (f:Int):Ev (fun _=>fQ92.f s f) (B (Blind s f)):=by
 refine Wp.ev ?_
 unfold fQ92.f
 repeat' (first|(with_reducible first|refine qtB ?_|refine qfB ?_|refine qt ?_|refine qf ?_)|(with_reducible refine Wp.bindE (impl_isSym_ev s hs f) ?_)|(simp only [decide_eq_true_eq])|(with_reducible refine Wp.ret ?_)|(with_reducible refine ql ?_)|(with_reducible refine Wp.iteB (fun hc=>?_) (fun hc=>?_))|(with_reducible refine Wp.ite (fun hc=>?_) (fun hc=>?_)))
 ·rw [eqB];exact ⟨fun h=>⟨hc.1,hc.2,h⟩,fun h=>h.2.2⟩
 ·rw [eqB];exact ⟨fun h=>absurd h (by decide),fun h=>absurd ⟨h.1,h.2.1⟩ hc⟩
def placeOf (z:Int):List Int→Int
 | []=>0
 | a::r=>a+z*placeOf z r
def varV (z:Int) (env:List Int) (v:Int):Int:=if v≥(env.length:Int) then 0 else (((rd env v).tmod z)+z).tmod z
def foldV (z:Int) (t:List Int):List Int→Int
 | []=>0
 | a::r=>r.foldl (fun x y=>opw z t x y) a
noncomputable def nodeV (s:List I_Sym) (z:Int) (T:List (List Int)) (env:List Int) (f v:Int) (vs:List Int):Int:=
 if f= -1 then varV z env v else if B (Blind s f)=true then foldV z (rd_Ls_i64 T f) vs else rd (rd_Ls_i64 T f) (placeOf z vs)
mutual
noncomputable def mean (s:List I_Sym) (z:Int) (T:List (List Int)) (env:List Int):I_Term→Int
 | ⟨f,v,l⟩=>nodeV s z T env f v (meanL s z T env l)
noncomputable def meanL (s:List I_Sym) (z:Int) (T:List (List Int)) (env:List Int):List I_Term→List Int
 | []=>[]
 | t::l=>mean s z T env t::meanL s z T env l
end
theorem mean_eq (s:List I_Sym) (z:Int) (T:List (List Int)) (env:List Int) (t:I_Term):mean s z T env t=nodeV s z T env t.f0 t.f1 (meanL s z T env t.f2):=by cases t;rw [mean]
theorem meanL_map (s:List I_Sym) (z:Int) (T:List (List Int)) (env:List Int) (l:List I_Term):meanL s z T env l=l.map (mean s z T env):=by
 induction l with
 | nil=>rw [meanL];rfl
 | cons a l ih=>rw [meanL,ih];rfl
theorem placeOf_snoc (z x:Int) (a:List Int):placeOf z (a++[x])=placeOf z a+z ^ a.length*x:=by
 induction a with
 | nil=>simp [placeOf]
 | cons b a ih=>
  rw [List.cons_append,placeOf,placeOf,ih,List.length_cons,Int.pow_succ,Int.mul_add,←Int.mul_assoc,Int.mul_comm (z ^ a.length) z,Int.add_assoc]
theorem placeOf_rng {z:Nat} (hz:1≤z∧z≤4) {vs:List Int} (h:InR z vs):0≤placeOf z vs∧placeOf z vs<((z ^ vs.length:Nat):Int):=by
 induction vs with
 | nil=>simp [placeOf]
 | cons a r ih=>
  have ha:=h a (by simp)
  have hr:=ih (fun x hx=>h x (by simp [hx]))
  rw [placeOf,List.length_cons,Nat.pow_succ]
  rcases z4 hz with rfl | rfl | rfl | rfl <;> omega
theorem foldV_rng {z:Nat} {t:List Int} (h:Sq z t) {vs:List Int} (hv:InR z vs):0≤foldV z t vs∧foldV z t vs<z:=by
 have hz:=h.1
 cases vs with
 | nil=>simp [foldV];omega
 | cons a r=>
  have:∀(r:List Int) (a:Int),(0≤a∧a<z)→InR z r→0≤r.foldl (fun x y=>opw z t x y) a∧r.foldl (fun x y=>opw z t x y) a<z:=by
   intro r
   induction r with
   | nil=>intro a ha _;exact ha
   | cons b r ih=>intro a ha hr;exact ih _ (opw_rng h ha (hr b (by simp))) (fun x hx=>hr x (by simp [hx]))
  exact this r a (hv a (by simp)) (fun x hx=>hv x (by simp [hx]))
theorem varV_rng {z:Nat} (hz:1≤z∧z≤4) (env:List Int) (v:Int):0≤varV z env v∧varV z env v<z:=by
 unfold varV
 split
 ·omega
 ·have h0:(0:Int)<z:=by omega
  have h1:=Int.lt_tmod_of_pos (rd env v) h0
  have h2:=Int.tmod_lt_of_pos (rd env v) h0
  exact tmod_rng0 (by omega) h0
theorem row_sq {s:List I_Sym} {z:Nat} {T:List (List Int)} (hw:WorldOk s z T) {f:Int} (h:Blind s f):Sq z (rd_Ls_i64 T f):=by
 obtain ⟨h0,h1,h2⟩:=h
 obtain ⟨n,rfl⟩:∃n:Nat,f=n:=⟨f.toNat,by omega⟩
 have r:=hw.2.2.2 n (by omega)
 have sg:=hw.1.1 n (by omega)
 refine ⟨hw.2.1,?_,r.2.1⟩
 rw [r.1,sg.2.2.2 h2]
 show z ^ 2=z*z
 rw [Nat.pow_two]
theorem row_at {s:List I_Sym} {z:Nat} {T:List (List Int)} (hw:WorldOk s z T) {f:Int} (h0:0≤f) (h1:f<(s.length:Int)):(rd_Ls_i64 T f).length=z ^ (rd_I_Sym s f).f1.toNat∧InR z (rd_Ls_i64 T f)∧0≤(rd_I_Sym s f).f1∧(rd_I_Sym s f).f1≤3:=by
 obtain ⟨n,rfl⟩:∃n:Nat,f=n:=⟨f.toNat,by omega⟩
 have r:=hw.2.2.2 n (by omega)
 have sg:=hw.1.1 n (by omega)
 exact ⟨r.1,r.2.1,sg.2.2.1.1,sg.2.2.1.2⟩
theorem mean_rng {s:List I_Sym} {z:Nat} {T:List (List Int)} (hw:WorldOk s z T) (env:List Int) (t:I_Term):FormOk s t→0≤mean s z T env t∧mean s z T env t<z:=by
 induction t using tInd with
 | h t ih=>
 intro hf
 have hv:InR z (meanL s z T env t.f2):=by
  rw [meanL_map]
  intro x hx
  obtain ⟨y,hy,rfl⟩:=List.mem_map.1 hx
  exact ih y hy (hf.kid y hy)
 rw [mean_eq,nodeV]
 split
 ·exact varV_rng hw.2.1 env t.f1
 ·rename_i h1
  split
  ·rename_i h2
   exact foldV_rng (row_sq hw (B_iff.1 h2)) hv
  ·rename_i h2
   rcases hf.row with r | r
   ·exact absurd r.1 h1
   ·obtain ⟨_,⟨a,b⟩,_,c,d,_⟩:=r
    have h3:(rd_I_Sym s t.f0).f2=false:=by
     cases h:(rd_I_Sym s t.f0).f2
     ·rfl
     ·exact absurd (B_iff.2 ⟨a,b,h⟩) h2
    obtain ⟨l1,l2,l3,l4⟩:=row_at hw a b
    have hp:=placeOf_rng hw.2.1 hv
    have hl:(meanL s z T env t.f2).length=(rd_I_Sym s t.f0).f1.toNat:=by rw [meanL_map,List.length_map];have:=c h3;omega
    rw [hl,←l1] at hp
    exact l2 _ (rd_mem hp.1 hp.2)
theorem impl_means_ev {s:List I_Sym} (hs:Names s) {z:Nat} {T:List (List Int)} (hw:WorldOk s z T) (env:List Int) (he:env.length≤1000000000) (t:I_Term):sz t≤1000000000→FormOk s t→Ev (fun k=>fQ26.f k s z T t.f0 t.f1 t.f2 env) (mean s z T env t):=by
 induction t using tInd with
 | h t ih=>
 intro ht hf
 have hlen:=sz_kids t
 have hz:=hw.2.1
 have hTl:=hw.2.2.1
 refine Wp.ev ?_
 refine Wp.step (fun k=>by rw [fQ26.f]) ?_
 rw [mean_eq,nodeV]
 refine Wp.bindE (impl_isVar_ev _ _ _) ?_
 refine Wp.iteB (fun hv=>?_) (fun hv=>?_)
 ·rw [if_pos hv]
  have h1:0≤t.f1:=by
   rcases hf.row with r | r
   ·exact r.2.1.1
   ·exact absurd hv r.1
  have h2:=Int.lt_tmod_of_pos (rd env t.f1) (b:=z) (by omega)
  have h3:=Int.tmod_lt_of_pos (rd env t.f1) (b:=z) (by omega)
  rw [wrap_id (x:=(rd env t.f1).tmod z+z) (by omega) (by omega)]
  unfold varV
  refine Wp.ite (fun hc=>Wp.ret (if_pos hc).symm) (fun hc=>?_)
  rw [if_neg hc]
  exact Wp.itet h1 (Wp.itet (by omega) (Wp.itef (by omega) (Wp.ret rfl)))
 ·rw [if_neg hv]
  rcases hf.row with r | r
  ·exact absurd r.1 hv
  obtain ⟨_,⟨a,b⟩,_,c,d,_⟩:=r
  have vals:InR z (meanL s z T env t.f2):=by
   rw [meanL_map]
   intro x hx
   obtain ⟨y,hy,rfl⟩:=List.mem_map.1 hx
   exact mean_rng hw env y (hf.kid y hy)
  refine Wp.itet a (Wp.itet (by omega) (Wp.bindE (impl_Blind_ev s hs _) (Wp.iteB (fun hb=>?_) (fun hb=>?_))))
  ·rw [if_pos (B_iff.2 hb)]
   have sq:=row_sq hw hb
   have h2:=d hb.2.2
   obtain ⟨x0,r,e⟩:∃x0 r,t.f2=x0::r:=by
    cases h:t.f2 with
    | nil=>rw [h] at h2;simp at h2
    | cons x r=>exact ⟨x,r,rfl⟩
   have m0:x0∈t.f2:=by rw [e];simp
   have r0:rd_I_Term t.f2 0=x0:=by rw [e];rfl
   have hk0:=sz_kid m0
   have ed:t.f2.drop (1:Int).toNat=r:=by rw [e];rfl
   rw [r0,ed]
   refine Wp.itet (by omega) (Wp.bindE (ih x0 m0 (by omega) (hf.kid _ m0)) (Wp.itet (by omega) ?_))
   have hl1:t.f2.length=r.length+1:=by rw [e];rfl
   have goal:foldV z (rd_Ls_i64 T t.f0) (meanL s z T env t.f2)=(r.map (mean s z T env)).foldl (fun x y=>opw z (rd_Ls_i64 T t.f0) x y) (mean s z T env x0):=by rw [e,meanL,foldV,meanL_map]
   rw [goal]
   refine Wp.each1 r zI_Term (by omega) (fun k i x=>fQ26.l0 k s env (rd_Ls_i64 T t.f0) x r r.length i z T) (fun p x=>x=(p.map (mean s z T env)).foldl (fun x y=>opw z (rd_Ls_i64 T t.f0) x y) (mean s z T env x0)∧(0≤x∧x<z)) ?_ ?_ _ ⟨rfl,mean_rng hw env x0 (hf.kid _ m0)⟩
   ·intro p y q x e2 m hn hr hwx hI jh
    refine Wp.step (fun k=>by rw [fQ26.l0]) ?_
    have r1:rd_I_Term r (p.length:Int)=y:=hr
    have my:y∈t.f2:=by rw [e];simp [m]
    have hky:=sz_kid my
    have hy:=mean_rng hw env y (hf.kid _ my)
    obtain ⟨o1,o2,o3,o4⟩:=opidx sq hI.2 hy
    rw [hwx.e,r1]
    refine Wp.itet (by omega) (Wp.itet (by omega) (Wp.itet (by omega) (Wp.bindE (ih y my (by omega) (hf.kid _ my)) ?_)))
    rw [o1,o2]
    refine Wp.itet o3 (Wp.itet o4 (jh _ ⟨?_,opw_rng sq hI.2 hy⟩))
    rw [List.map_append,List.foldl_append,←hI.1];rfl
   ·intro x hI
    refine Wp.step (fun k=>by rw [fQ26.l0]) ?_
    exact Wp.itef (by omega) (Wp.ret hI.1)
  ·rw [if_neg (fun h=>hb (B_iff.1 h))]
   have h3:(rd_I_Sym s t.f0).f2=false:=by
    cases h:(rd_I_Sym s t.f0).f2
    ·rfl
    ·exact absurd ⟨a,b,h⟩ hb
   obtain ⟨l1,l2,l3,l4⟩:=row_at hw a b
   have hl:=c h3
   refine Wp.each2 t.f2 zI_Term (by omega) (fun k i x u=>fQ26.l1 k s env (rd_Ls_i64 T t.f0) x u t.f2 t.f2.length i z T) (fun p x u=>x=placeOf z (meanL s z T env p)∧u=((z ^ p.length:Nat):Int)) ?_ ?_ _ _ ⟨by rw [meanL,placeOf],rfl⟩
   ·intro p y q x u e2 m hn hr hwx hI jh
    refine Wp.step (fun k=>by rw [fQ26.l1]) ?_
    obtain ⟨hI1,hI2⟩:=hI
    have r1:rd_I_Term t.f2 (p.length:Int)=y:=hr
    have hky:=sz_kid m
    have hy:=mean_rng hw env y (hf.kid _ m)
    have pv:InR z (meanL s z T env p):=by
     intro x hx
     rw [meanL_map] at hx
     obtain ⟨w,hw2,rfl⟩:=List.mem_map.1 hx
     exact mean_rng hw env w (hf.kid w (by rw [e2];simp [hw2]))
    have pr:=placeOf_rng hz pv
    have pl:(meanL s z T env p).length=p.length:=by rw [meanL_map,List.length_map]
    rw [pl,←hI1] at pr
    have hp3:p.length=0∨p.length=1∨p.length=2:=by omega
    have w1:wrap64 (u*mean s z T env y)=u*mean s z T env y∧wrap64 (x+u*mean s z T env y)=x+u*mean s z T env y∧wrap64 (u*z)=u*z:=by
     rcases z4 hz with rfl | rfl | rfl | rfl <;> rcases hp3 with e3 | e3 | e3 <;> rw [e3] at hI2 pr <;> simp at hI2 pr <;> rw [hI2] <;> refine ⟨wrap_id (by omega) (by omega),wrap_id (by omega) (by omega),wrap_id (by omega) (by omega)⟩
    rw [hwx.e,r1]
    refine Wp.itet (by omega) (Wp.itet (by omega) (Wp.itet (by omega) (Wp.bindE (ih y m (by omega) (hf.kid _ m)) ?_)))
    rw [w1.1,w1.2.1,w1.2.2]
    refine jh _ _ ⟨?_,?_⟩
    ·have em:meanL s z T env (p++[y])=meanL s z T env p++[mean s z T env y]:=by rw [meanL_map,meanL_map,List.map_append];rfl
     rw [em,placeOf_snoc,hI1,hI2,pl];simp
    ·rw [hI2,List.length_append];simp [Int.pow_succ]
   ·intro x u hI
    refine Wp.step (fun k=>by rw [fQ26.l1]) ?_
    have hp:=placeOf_rng hz vals
    have hl2:(meanL s z T env t.f2).length=(rd_I_Sym s t.f0).f1.toNat:=by rw [meanL_map,List.length_map];omega
    rw [hl2,←l1,←hI.1] at hp
    rw [←hI.1]
    exact Wp.itef (by omega) (Wp.itet hp.1 (Wp.itet hp.2 (Wp.ret rfl)))
def hf (x y:Int):Int:=wrap64 (Int.fdiv (IntKind.wrap .u64 (wrap64 (x+y))) (2 ^ (min (1:Int).toNat 64)))
structure Srt (α:Type) where
 z:α
 cmpE:Nat→α→α→Option Int
 cmp:α→α→Ordering
 Q:α→Prop
 hcmp:∀a b,Q a→Q b→Ev (fun k=>cmpE k a b) (ordI (cmp a b))
 same:∀{a b},cmp a b=.eq↔a=b
 swp:∀a b,cmp b a=(cmp a b).swap
 tr:∀{a b c},cmp a b=.lt→cmp b c=.lt→cmp a c=.lt
 ins0:Nat→List α→Int→Int→Int→Option (List α)
 ins1:Nat→List α→Int→Int→Int→Int→Option (List α)
 swp0:Nat→List α→Int→Int→Int→Int→Option (List α)
 rot0:Nat→List α→Int→Int→Int→Option (List α)
 sy0:Nat→List α→Int→Int→Int→Option (List α)
 sy1:Nat→List α→Int→Int→Option (List α)
 sy2:Nat→List α→Int→Int→Int→Option (List α)
 sy3:Nat→List α→Int→Int→Option (List α)
 sy4:Nat→List α→Int→Int→Int→Int→Int→Int→Int→Int→Option (List α)
 j0:Nat→List α→Int→Int→Int→Int→Int→Option (List α)
 j1:Nat→List α→Int→Int→Int→Option (List α)
 sy:Nat→List α→Int→Int→Int→Option (List α)
 st0:Nat→List α→Int→Int→Int→Int→Option (List α)
 st1:Nat→List α→Int→Int→Option (List α)
 st2:Nat→List α→Int→Int→Int→Int→Option (List α)
 eins0:∀k x a b i,ins0 (k+1) x a b i=if i<b then ins1 k x a b i i else some x
 eins1:∀k x a b i j,ins1 (k+1) x a b i j=if j>a then (if 0≤j then (if j<(x.length:Int) then (if 0≤wrap64 (j - 1) then (if wrap64 (j - 1)<(x.length:Int) then ((cmpE k (rdOf z x j) (rdOf z x (wrap64 (j - 1)))).bind fun t=>if t<0 then (if wrap64 (j - 1)<((x.set j.toNat (rdOf z x (wrap64 (j - 1)))).length:Int) then ins1 k ((x.set j.toNat (rdOf z x (wrap64 (j - 1)))).set (wrap64 (j - 1)).toNat (rdOf z x j)) a b i (wrap64 (j - 1)) else none) else ins0 k x a b (wrap64 (i+1))) else none) else none) else none) else none) else ins0 k x a b (wrap64 (i+1))
 eswp:∀k x a b n i,swp0 (k+1) x a b n i=if i<n then (if 0≤wrap64 (b+i) then (if wrap64 (b+i)<(x.length:Int) then (if 0≤wrap64 (a+i) then (if wrap64 (a+i)<(x.length:Int) then (if wrap64 (b+i)<((x.set (wrap64 (a+i)).toNat (rdOf z x (wrap64 (b+i)))).length:Int) then swp0 k ((x.set (wrap64 (a+i)).toNat (rdOf z x (wrap64 (b+i)))).set (wrap64 (b+i)).toNat (rdOf z x (wrap64 (a+i)))) a b n (wrap64 (i+1)) else none) else none) else none) else none) else none) else some x
 erot:∀k x m i j,rot0 (k+1) x m i j=if i=j then ((swp0 k x (wrap64 (m - i)) m i 0).bind fun t=>some t) else (if i>j then ((swp0 k x (wrap64 (m - i)) m j 0).bind fun t=>rot0 k t m (wrap64 (i - j)) j) else ((swp0 k x (wrap64 (m - i)) (wrap64 ((wrap64 (m+j)) - i)) i 0).bind fun t=>rot0 k t m i (wrap64 (j - i))))
 esy0:∀k x a i j,sy0 (k+1) x a i j=if i<j then (if 0≤hf i j then (if hf i j<(x.length:Int) then (if 0≤a then (if a<(x.length:Int) then ((cmpE k (rdOf z x (hf i j)) (rdOf z x a)).bind fun t=>if t<0 then sy0 k x a (wrap64 (hf i j+1)) j else sy0 k x a i (hf i j)) else none) else none) else none) else none) else sy1 k x i a
 esy1:∀k x i c,sy1 (k+1) x i c=if c<wrap64 (i - 1) then (if 0≤wrap64 (c+1) then (if wrap64 (c+1)<(x.length:Int) then (if 0≤c then (if c<(x.length:Int) then (if wrap64 (c+1)<((x.set c.toNat (rdOf z x (wrap64 (c+1)))).length:Int) then sy1 k ((x.set c.toNat (rdOf z x (wrap64 (c+1)))).set (wrap64 (c+1)).toNat (rdOf z x c)) i (wrap64 (c+1)) else none) else none) else none) else none) else none) else some x
 esy2:∀k x m i j,sy2 (k+1) x m i j=if i<j then (if 0≤m then (if m<(x.length:Int) then (if 0≤hf i j then (if hf i j<(x.length:Int) then ((cmpE k (rdOf z x m) (rdOf z x (hf i j))).bind fun t=>if t<0 then sy2 k x m i (hf i j) else sy2 k x m (wrap64 (hf i j+1)) j) else none) else none) else none) else none) else sy3 k x i m
 esy3:∀k x i c,sy3 (k+1) x i c=if c>i then (if 0≤wrap64 (c - 1) then (if wrap64 (c - 1)<(x.length:Int) then (if 0≤c then (if c<(x.length:Int) then (if wrap64 (c - 1)<((x.set c.toNat (rdOf z x (wrap64 (c - 1)))).length:Int) then sy3 k ((x.set c.toNat (rdOf z x (wrap64 (c - 1)))).set (wrap64 (c - 1)).toNat (rdOf z x c)) i (wrap64 (c - 1)) else none) else none) else none) else none) else none) else some x
 esy4:∀k x a m b mid n start r p,sy4 (k+1) x a m b mid n start r p=if start<r then (if 0≤wrap64 (p - hf start r) then (if wrap64 (p - hf start r)<(x.length:Int) then (if 0≤hf start r then (if hf start r<(x.length:Int) then ((cmpE k (rdOf z x (wrap64 (p - hf start r))) (rdOf z x (hf start r))).bind fun t=>if t<0 then sy4 k x a m b mid n start (hf start r) p else sy4 k x a m b mid n (wrap64 (hf start r+1)) r p) else none) else none) else none) else none) else (if start<m then (if m<wrap64 (n - start) then ((rot0 k x m (wrap64 (m - start)) (wrap64 ((wrap64 (n - start)) - m))).bind fun t=>j0 k t a b mid start (wrap64 (n - start))) else j0 k x a b mid start (wrap64 (n - start))) else j0 k x a b mid start (wrap64 (n - start)))
 ej0:∀k x a b mid start e,j0 (k+1) x a b mid start e=if a<start then (if start<mid then ((sy k x a start mid).bind fun t=>j1 k t b mid e) else j1 k x b mid e) else j1 k x b mid e
 ej1:∀k x b mid e,j1 (k+1) x b mid e=if mid<e then (if e<b then ((sy k x mid e b).bind fun t=>some t) else some x) else some x
 esy:∀k x a m b,sy (k+1) x a m b=if wrap64 (m - a)=1 then sy0 k x a m b else (if wrap64 (b - m)=1 then sy2 k x m a m else (if m>hf a b then sy4 k x a m b (hf a b) (wrap64 (hf a b+m)) (wrap64 ((wrap64 (hf a b+m)) - b)) (hf a b) (wrap64 ((wrap64 (hf a b+m)) - 1)) else sy4 k x a m b (hf a b) (wrap64 (hf a b+m)) a m (wrap64 ((wrap64 (hf a b+m)) - 1))))
 est0:∀k x n bs a b,st0 (k+1) x n bs a b=if b≤n then ((ins0 k x a b (wrap64 (a+1))).bind fun t=>st0 k t n bs b (wrap64 (b+bs))) else ((ins0 k x a n (wrap64 (a+1))).bind fun t=>st1 k t n bs)
 est1:∀k x n bs,st1 (k+1) x n bs=if bs<n then st2 k x n bs 0 (wrap64 (2*bs)) else some x
 est2:∀k x n bs a b,st2 (k+1) x n bs a b=if b≤n then ((sy k x a (wrap64 (a+bs)) b).bind fun t=>st2 k t n bs b (wrap64 (b+wrap64 (2*bs)))) else (if wrap64 (a+bs)<n then ((sy k x a (wrap64 (a+bs)) n).bind fun t=>st1 k t n (wrap64 (bs*2))) else st1 k x n (wrap64 (bs*2)))
def Srt.le {α:Type} (S:Srt α) (a b:α):Prop:=S.cmp a b≠.gt
theorem Srt.le_of_lt {α:Type} (S:Srt α) {a b:α} (h:S.cmp a b=.lt):S.le a b:=by unfold Srt.le;rw [h];nofun
theorem Srt.le_refl {α:Type} (S:Srt α) (a:α):S.le a a:=by unfold Srt.le;rw [S.same.2 rfl];nofun
def LitTrue (s:List I_Sym) (z:Int) (T:List (List Int)) (env:List Int) (l:I_Lit):Prop:=(mean s z T env l.f1=mean s z T env l.f2)↔l.f0=true
def Some1 (s:List I_Sym) (z:Int) (T:List (List Int)) (c:List I_Lit) (env:List Int):Prop:=∃i,i<c.length∧LitTrue s z T env (rd_I_Lit c i)
def LitsOk (s:List I_Sym) (c:List I_Lit):Prop:=∀l∈c,(sz l.f1≤1000000000∧sz l.f2≤1000000000)∧FormOk s l.f1∧FormOk s l.f2
theorem impl_someHolds_ev {s:List I_Sym} (hs:Names s) {z:Nat} {T:List (List Int)} (hw:WorldOk s z T) (env:List Int) (he:env.length≤1000000000) (c:List I_Lit) (hl:c.length≤1000000000) (hc:LitsOk s c):Ev (fun k=>fQ78.f k s z T c env) (B (Some1 s z T c env)):=by
 have key:Ev (fun k=>fQ0.f k c s z T env) (fidx (fun i=>LitTrue s z T env (rd_I_Lit c i)) c.length 0,s,(z:Int),T,env):=by
  unfold fQ0.f
  refine Wp.find c.length hl (fun k i=>fQ0.l0 k c c.length i s z T env) (fun i=>(i,s,(z:Int),T,env)) ?_ ?_
  ·intro i P hi hwi hT hF
   refine Wp.step (fun k=>by rw [fQ0.l0]) ?_
   obtain ⟨⟨h1,h2⟩,h3,h4⟩:=hc _ (rdLit_mem (l:=c) (i:=i) (by omega) (by omega))
   have e:Ev (fun k=>fQ49.f k (rd_I_Lit c i).f0 (rd_I_Lit c i).f1.f0 (rd_I_Lit c i).f1.f1 (rd_I_Lit c i).f1.f2 (rd_I_Lit c i).f2.f0 (rd_I_Lit c i).f2.f1 (rd_I_Lit c i).f2.f2 s z T env) (B (LitTrue s z T env (rd_I_Lit c i)),s,(z:Int),T,env):=by
    unfold fQ49.f
    refine ((impl_means_ev hs hw env he _ h1 h3).bind ((impl_means_ev hs hw env he _ h2 h4).bind Ev.ret)).val ?_
    have:decide (decide (mean s z T env (rd_I_Lit c i).f1=mean s z T env (rd_I_Lit c i).f2)=(rd_I_Lit c i).f0)=B (LitTrue s z T env (rd_I_Lit c i)):=by
     rw [eqB,decide_eq_true_iff,LitTrue]
     cases (rd_I_Lit c i).f0 <;> simp
    rw [this]
   simp only [hwi.e]
   repeat' (first|(with_reducible first|refine qtB ?_|refine qfB ?_|refine qt ?_|refine qf ?_)|(with_reducible refine Wp.bindE (e) ?_)|(simp only [decide_eq_true_eq])|(with_reducible refine Wp.ret ?_)|(with_reducible refine ql ?_)|(with_reducible refine Wp.iteB (fun hc=>?_) (fun hc=>?_))|(with_reducible refine Wp.ite (fun hc=>?_) (fun hc=>?_)))
   all_goals first | exact hF (by assumption) | exact hT (by assumption)
  ·refine Wp.step (fun k=>by rw [fQ0.l0]) ?_
   exact Wp.itef (by omega) (Wp.ret rfl)
 unfold fQ78.f fQ5.f
 refine ((key.bind Ev.ret).bind Ev.ret).val ?_
 rw [dec_B,B_congr fidx_ge];rfl
def envN (z:Nat):List Int→Nat→List Int→List Int
 | [],_,e=>e
 | v::r,n,e=>envN z r (n / z) (e.set v.toNat ((n % z:Nat):Int))
def incE (z:Nat):List Int→List Int→List Int
 | [],e=>e
 | v::r,e=>if rd e v=(z:Int) - 1 then incE z r (e.set v.toNat 0) else e.set v.toNat (rd e v+1)
def VarsIn (n:Nat) (l:List Int):Prop:=Inc l∧∀v∈l,0≤v∧v<(n:Int)
theorem envN_len (z:Nat) (l:List Int):∀n e,(envN z l n e).length=e.length:=by
 induction l with
 | nil=>intro n e;rfl
 | cons v r ih=>intro n e;rw [envN,ih,List.length_set]
theorem toNat_ne {a b:Int} (ha:0≤a) (hb:0≤b) (h:a≠b):a.toNat≠b.toNat:=by omega
theorem envN_set (z:Nat) {v:Int} (hv:0≤v) (x:Int) (l:List Int) (h:∀w∈l,0≤w∧v≠w):∀n e,(envN z l n e).set v.toNat x=envN z l n (e.set v.toNat x):=by
 induction l with
 | nil=>intro n e;rfl
 | cons w r ih=>
  intro n e
  have hw:=h w (by simp)
  rw [envN,envN,ih (fun u hu=>h u (by simp [hu])),List.set_comm _ _ (toNat_ne hv hw.1 hw.2)]
theorem rd_set_eq {e:List Int} {v:Int} (x:Int) (h:v.toNat<e.length):rd (e.set v.toNat x) v=x:=by
 show (e.set v.toNat x).getD v.toNat 0=x
 rw [List.getD_eq_getElem?_getD,List.getElem?_set_self h];rfl
theorem rd_set_ne {e:List Int} {v w:Int} (x:Int) (h:w.toNat≠v.toNat):rd (e.set w.toNat x) v=rd e v:=by
 show (e.set w.toNat x).getD v.toNat 0=e.getD v.toNat 0
 rw [List.getD_eq_getElem?_getD,List.getD_eq_getElem?_getD,List.getElem?_set_ne h]
theorem envN_rd (z:Nat) {v:Int} (hv:0≤v) (l:List Int) (h:∀w∈l,0≤w∧v≠w):∀n e,rd (envN z l n e) v=rd e v:=by
 induction l with
 | nil=>intro n e;rfl
 | cons w r ih=>
  intro n e
  have hw:=h w (by simp)
  rw [envN,ih (fun u hu=>h u (by simp [hu])),rd_set_ne _ (toNat_ne hw.1 hv (Ne.symm hw.2))]
theorem VarsIn.tl {n:Nat} {v:Int} {r:List Int} (h:VarsIn n (v::r)):VarsIn n r∧(0≤v∧v<(n:Int))∧∀w∈r,0≤w∧v≠w:=by
 have h1:=List.pairwise_cons.1 h.1
 refine ⟨⟨h1.2,fun w hw=>h.2 w (by simp [hw])⟩,h.2 v (by simp),fun w hw=>⟨(h.2 w (by simp [hw])).1,fun e=>?_⟩⟩
 have:=h1.1 w hw
 omega
theorem env_next {z:Nat} (hz:1≤z) (l:List Int):∀(n:Nat) (e:List Int),VarsIn e.length l→n+1<z ^ l.length→incE z l (envN z l n e)=envN z l (n+1) e:=by
 induction l with
 | nil=>intro n e _ h;simp at h
 | cons v r ih=>
  intro n e hv h
  obtain ⟨hr,⟨v0,v1⟩,hne⟩:=hv.tl
  have hvl:v.toNat<e.length:=by omega
  have hm:n % z<z:=Nat.mod_lt _ (by omega)
  have hdm:z*(n / z)+n % z=n:=Nat.div_add_mod n z
  rw [incE,envN,envN_rd z v0 r hne,rd_set_eq _ hvl]
  by_cases hc:((n % z:Nat):Int)=(z:Int) - 1
  ·rw [if_pos hc,envN_set z v0 0 r hne,List.set_set]
   have h1:(n+1) / z=n / z+1:=by
    have:n+1=z*(n / z+1):=by rw [Nat.mul_add];omega
    rw [this,Nat.mul_div_cancel_left _ (by omega)]
   have h2:(n+1) % z=0:=by
    have:n+1=z*(n / z+1):=by rw [Nat.mul_add];omega
    rw [this,Nat.mul_mod_right]
   rw [envN,h1,h2]
   refine ih (n / z) _ ?_ ?_
   ·rw [List.length_set];exact hr
   ·rw [List.length_cons,Nat.pow_succ] at h
    have:z*(n / z+1)<z*z ^ r.length:=by rw [Nat.mul_comm z (z ^ _),Nat.mul_add];omega
    exact Nat.lt_of_mul_lt_mul_left this
  ·rw [if_neg hc,envN_set z v0 _ r hne,List.set_set,envN]
   have h3:n % z+1<z:=by omega
   have hp:z*(n / z)=n - n % z:=by omega
   have h1:(n+1) / z=n / z:=by
    have:n+1=(n % z+1)+z*(n / z):=by omega
    rw [this,Nat.add_mul_div_left _ _ (by omega),Nat.div_eq_of_lt h3,Nat.zero_add]
   have h2:(n+1) % z=n % z+1:=by
    have:n+1=(n % z+1)+z*(n / z):=by omega
    rw [this,Nat.add_mul_mod_self_left,Nat.mod_eq_of_lt h3]
   rw [h1,h2];rfl
theorem env_last {z:Nat} (hz:1≤z) (l:List Int):∀(n:Nat) (e:List Int),VarsIn e.length l→n+1=z ^ l.length→∀v∈l,rd (envN z l n e) v=(z:Int) - 1:=by
 induction l with
 | nil=>intro n e _ _ v h;cases h
 | cons v r ih=>
  intro n e hv h w hw
  obtain ⟨hr,⟨v0,v1⟩,hne⟩:=hv.tl
  rw [List.length_cons,Nat.pow_succ,Nat.mul_comm] at h
  have hdm:z*(n / z)+n % z=n:=Nat.div_add_mod n z
  have hm:n % z<z:=Nat.mod_lt _ (by omega)
  have h1:n / z+1=z ^ r.length:=by
   have hp:1≤z ^ r.length:=Nat.one_le_pow _ _ (by omega)
   obtain ⟨q,hq⟩:∃q,z ^ r.length=q+1:=⟨z ^ r.length - 1,by omega⟩
   rw [hq] at h⊢
   have:n=z*q+(z - 1):=by rw [Nat.mul_add] at h;omega
   rw [this,Nat.mul_add_div (by omega),Nat.div_eq_of_lt (by omega),Nat.add_zero]
  have h2:n % z=z - 1:=by
   have:z*(n / z+1)=z*(n / z)+z:=by rw [Nat.mul_add];omega
   rw [h1] at this
   omega
  rw [envN]
  rcases List.mem_cons.1 hw with rfl | hw
  ·rw [envN_rd z v0 r hne,rd_set_eq _ (by omega),h2];omega
  ·exact ih (n / z) _ (by rw [List.length_set];exact hr) h1 w hw
theorem env_stop {z:Nat} (hz:1≤z) (l:List Int):∀(n:Nat) (e:List Int),VarsIn e.length l→n+1<z ^ l.length→∃v∈l,rd (envN z l n e) v≠(z:Int) - 1:=by
 induction l with
 | nil=>intro n e _ h;simp at h
 | cons v r ih=>
  intro n e hv h
  obtain ⟨hr,⟨v0,v1⟩,hne⟩:=hv.tl
  have hm:n % z<z:=Nat.mod_lt _ (by omega)
  have hdm:z*(n / z)+n % z=n:=Nat.div_add_mod n z
  by_cases hc:((n % z:Nat):Int)=(z:Int) - 1
  ·obtain ⟨w,hw,h2⟩:=ih (n / z) (e.set v.toNat ((n % z:Nat):Int)) (by rw [List.length_set];exact hr) (by
    rw [List.length_cons,Nat.pow_succ] at h
    have:z*(n / z+1)<z*z ^ r.length:=by rw [Nat.mul_comm z (z ^ _),Nat.mul_add];omega
    exact Nat.lt_of_mul_lt_mul_left this)
   exact ⟨w,by simp [hw],h2⟩
  ·refine ⟨v,by simp,?_⟩
   rw [envN,envN_rd z v0 r hne,rd_set_eq _ (by omega)]
   exact hc
theorem env_rng {z:Nat} (hz:1≤z) (l:List Int):∀(n:Nat) (e:List Int),VarsIn e.length l→∀v∈l,0≤rd (envN z l n e) v∧rd (envN z l n e) v<z:=by
 induction l with
 | nil=>intro n e _ v h;cases h
 | cons v r ih=>
  intro n e hv w hw
  obtain ⟨hr,⟨v0,v1⟩,hne⟩:=hv.tl
  have hm:n % z<z:=Nat.mod_lt _ (by omega)
  rw [envN]
  rcases List.mem_cons.1 hw with rfl | hw
  ·rw [envN_rd z v0 r hne,rd_set_eq _ (by omega)];omega
  ·exact ih (n / z) _ (by rw [List.length_set];exact hr) w hw
theorem impl_always_ev {s:List I_Sym} (hs:Names s) {z:Nat} {T:List (List Int)} (hw:WorldOk s z T) (c:List I_Lit) (hl:szC c≤100000000) (hc:LitsOk s c) (hv:VarsIn 100 (varsC c)):Ev (fun k=>fQ30.f k s z T c) (B (∀n,n<z ^ (varsC c).length→Some1 s z T c (envN z (varsC c) n (List.replicate 100 0)))):=by
 have hz:=hw.2.1
 have hcl:=szC_len c
 have hvl:=varsC_len c
 refine Wp.ev ?_
 unfold fQ30.f
 refine Wp.bindE (impl_ClauseVars_ev c hl) ?_
 generalize varsC c=vs at hv hvl⊢
 rw [show (100:Int).toNat=100 from rfl]
 have step:∀(q p:List Int) (e:List Int),vs=p++q→e.length=100→(∀v∈q,0≤rd e v∧rd e v<z)→∀(P:Bool→Prop),((∃v∈q,rd e v≠(z:Int) - 1)→Wp (fun k=>fQ30.l0 k s vs (incE z q e) z T c) P)→((∀v∈q,rd e v=(z:Int) - 1)→P true)→Wp (fun k=>fQ30.l1 k s vs e (p.length:Int) z T c) P:=by
  intro q
  induction q with
  | nil=>
   intro p e hp he _ P h1 h2
   rw [List.append_nil] at hp
   subst hp
   refine Wp.step (fun k=>by rw [fQ30.l1]) ?_
   exact Wp.itef (by omega) (Wp.itet rfl (Wp.ret (h2 (by simp))))
  | cons v q ih=>
   intro p e hp he hb P h1 h2
   refine Wp.step (fun k=>by rw [fQ30.l1]) ?_
   have r1:rd vs (p.length:Int)=v:=by rw [hp];exact rd_at p v q
   have hvl2:vs.length=p.length+1+q.length:=by rw [hp];simp;omega
   have hv1:=hv.2 v (by rw [hp];simp)
   have hinc:List.Pairwise (· < ·) (p++v::q):=hp▸hv.1
   have hq:∀w∈q,v<w:=(List.pairwise_cons.1 (List.pairwise_append.1 hinc).2.1).1
   rw [r1,wrap_id (x:=(z:Int) - 1) (by omega) (by omega),wrap_id (x:=(p.length:Int)+1) (by omega) (by omega)]
   refine Wp.itet (by omega) (Wp.itet (Int.natCast_nonneg _) (Wp.itet hv1.1 (Wp.itet (by omega) (Wp.ite (fun h=>?_) (fun h=>?_)))))
   ·have rset:∀w∈q,rd (e.set v.toNat 0) w=rd e w:=fun w hw=>rd_set_ne _ (by have:=hq w hw;omega)
    have:=ih (p++[v]) (e.set v.toNat 0) (by rw [hp];simp) (by simp [he]) (fun w hw=>by rw [rset w hw];exact hb w (by simp [hw])) P (fun ⟨w,hw,h3⟩=>?_) (fun h3=>h2 ?_)
    ·rw [show (((p++[v]).length:Nat):Int)=(p.length:Int)+1 from by simp] at this
     exact this
    ·have:=h1 ⟨w,by simp [hw],by rw [←rset w hw];exact h3⟩
     rw [incE,if_pos h] at this
     exact this
    ·intro w hw
     rcases List.mem_cons.1 hw with rfl | hw
     ·exact h
     ·rw [←rset w hw];exact h3 w hw
   ·refine Wp.itef (by omega) ?_
    have h3:=h1 ⟨v,by simp,h⟩
    rw [incE,if_neg h] at h3
    have:=hb v (by simp)
    rw [wrap_id (x:=rd e v+1) (by omega) (by omega)]
    exact h3
 have hpow:1≤z ^ vs.length:=Nat.one_le_pow _ _ (by omega)
 have e100:(List.replicate 100 (0:Int)).length=100:=List.length_replicate
 have hv':VarsIn (List.replicate 100 (0:Int)).length vs:=by rw [e100];exact hv
 have main:∀(d n:Nat),n+d+1=z ^ vs.length→(∀m,m<n→Some1 s z T c (envN z vs m (List.replicate 100 0)))→Wp (fun k=>fQ30.l0 k s vs (envN z vs n (List.replicate 100 0)) z T c) (fun r=>r=B (∀n,n<z ^ vs.length→Some1 s z T c (envN z vs n (List.replicate 100 0)))):=by
  intro d
  induction d with
  | zero=>
   intro n hn hall
   refine Wp.step (fun k=>by rw [fQ30.l0]) ?_
   have hel:(envN z vs n (List.replicate 100 0)).length=100:=by rw [envN_len,e100]
   refine Wp.bindE (impl_someHolds_ev hs hw _ (by omega) c (by omega) hc) (Wp.iteB (fun h=>?_) (fun h=>Wp.ret ?_))
   ·refine step vs [] _ rfl hel (env_rng hz.1 vs n _ hv') _ (fun ⟨v,hm,h2⟩=>absurd (env_last hz.1 vs n _ hv' (by omega) v hm) h2) (fun _=>?_)
    rw [eqB]
    refine ⟨fun _ m hm=>?_,fun _=>rfl⟩
    by_cases e:m=n
    ·rw [e];exact h
    ·exact hall m (by omega)
   ·rw [eqB]
    exact ⟨fun h=>absurd h (by decide),fun h2=>absurd (h2 n (by omega)) h⟩
  | succ d ih=>
   intro n hn hall
   refine Wp.step (fun k=>by rw [fQ30.l0]) ?_
   have hel:(envN z vs n (List.replicate 100 0)).length=100:=by rw [envN_len,e100]
   refine Wp.bindE (impl_someHolds_ev hs hw _ (by omega) c (by omega) hc) (Wp.iteB (fun h=>?_) (fun h=>Wp.ret ?_))
   ·refine step vs [] _ rfl hel (env_rng hz.1 vs n _ hv') _ (fun _=>?_) (fun h2=>?_)
    ·rw [env_next hz.1 vs n _ hv' (by omega)]
     refine ih (n+1) (by omega) (fun m hm=>?_)
     by_cases e:m=n
     ·rw [e];exact h
     ·exact hall m (by omega)
    ·obtain ⟨v,hm,h3⟩:=env_stop hz.1 vs n _ hv' (by omega)
     exact absurd (h2 v hm) h3
   ·rw [eqB]
    exact ⟨fun h=>absurd h (by decide),fun h2=>absurd (h2 n (by omega)) h⟩
 have h0:=main (z ^ vs.length - 1) 0 (by omega) (fun m hm=>absurd hm (Nat.not_lt_zero m))
 have e0:envN z vs 0 (List.replicate 100 0)=List.replicate 100 0:=by
  have:∀(l:List Int),(∀v∈l,0≤v∧v<100)→envN z l 0 (List.replicate 100 0)=List.replicate 100 0:=by
   intro l
   induction l with
   | nil=>intro _;rfl
   | cons v r ih=>
    intro h
    rw [envN,Nat.zero_div,Nat.zero_mod]
    have:(List.replicate 100 (0:Int)).set v.toNat ((0:Nat):Int)=List.replicate 100 0:=by
     have:=h v (by simp)
     apply List.ext_getElem (by simp)
     intro i h1 h2
     rw [List.getElem_set,List.getElem_replicate]
     split
     ·rfl
     ·rfl
    rw [this]
    exact ih (fun w hw=>h w (by simp [hw]))
  exact this vs (fun v hm=>hv.2 v hm)
 rw [e0] at h0
 exact h0
theorem occ_rng {s:List I_Sym} (t:I_Term):FormOk s t→∀v∈occT t,0≤v∧v<100:=by
 induction t using tInd with
 | h t ih=>
 intro hf v hv
 rw [occT_eq] at hv
 rcases List.mem_append.1 hv with h | h
 ·by_cases hm:t.f0= -1
  ·rw [if_pos hm] at h
   rcases hf.row with r | r
   ·have:=r.2.1
    rw [List.mem_singleton.1 h];omega
   ·exact absurd hm r.1
  ·rw [if_neg hm] at h;cases h
 ·have:∀l:List I_Term,(∀x∈l,∀v∈occT x,0≤v∧v<100)→∀v∈occL l,0≤v∧v<100:=by
   intro l
   induction l with
   | nil=>intro _ v h;rw [occL] at h;cases h
   | cons a l ihl=>
    intro h v hv
    rw [occL] at hv
    rcases List.mem_append.1 hv with h1 | h1
    ·exact h a (by simp) v h1
    ·exact ihl (fun x hx=>h x (by simp [hx])) v h1
  exact this t.f2 (fun x hx=>ih x hx (hf.kid x hx)) v h
theorem mem_varsC {c:List I_Lit} {v:Int}:v∈varsC c↔∃l∈c,v∈occT l.f1∨v∈occT l.f2:=by
 have:∀(c:List I_Lit) (a:List Int),v∈c.foldl (fun a l=>varsT l.f2 (varsT l.f1 a)) a↔v∈a∨∃l∈c,v∈occT l.f1∨v∈occT l.f2:=by
  intro c
  induction c with
  | nil=>intro a;simp
  | cons l c ih=>intro a;rw [List.foldl_cons,ih,varsT_mem,varsT_mem];simp only [List.mem_cons,exists_eq_or_imp];grind
 have h:=this c []
 unfold varsC
 rw [h];simp
theorem rdLit_at {c:List I_Lit} {l:I_Lit} (h:l∈c):∃i:Nat,i<c.length∧rd_I_Lit c i=l:=by
 obtain ⟨i,hi,rfl⟩:=List.getElem_of_mem h
 refine ⟨i,hi,?_⟩
 show c.getD i zI_Lit=_
 rw [List.getD_eq_getElem?_getD,List.getElem?_eq_getElem hi];rfl
theorem ClauseOk.lit {s:List I_Sym} {c:List I_Lit} (h:ClauseOk s c):∀l∈c,LitOk s l:=by
 intro l hl
 obtain ⟨i,hi,rfl⟩:=rdLit_at hl
 exact (h.1 i hi).1
theorem ClauseOk.lits {s:List I_Sym} {c:List I_Lit} (h:ClauseOk s c):LitsOk s c:=by
 intro l hl
 have:=h.lit l hl
 have h1:=this.1.2.1
 have h2:=this.2.1.2.1
 exact ⟨⟨by omega,by omega⟩,this.1.2.2,this.2.1.2.2⟩
theorem ClauseOk.vars {s:List I_Sym} {c:List I_Lit} (h:ClauseOk s c):VarsIn 100 (varsC c):=by
 refine ⟨varsC_inc c,fun v hv=>?_⟩
 obtain ⟨l,hl,h1⟩:=mem_varsC.1 hv
 have:=h.lit l hl
 rcases h1 with h1 | h1
 ·exact occ_rng _ this.1.2.2 v h1
 ·exact occ_rng _ this.2.1.2.2 v h1
def HoldsW (m:Nat) (s:List I_Sym) (z:Nat) (T:List (List Int)) (c:List I_Lit):Prop:=WorldOk s z T∧ClauseOk s c∧(varsC c).length≤m∧∀n,n<z ^ (varsC c).length→Some1 s z T c (envN z (varsC c) n (List.replicate 100 0))
theorem impl_True_ev {s:List I_Sym} (hs:Names s) {z:Int} {T:List (List Int)} (hT:Rows T) {c:List I_Lit} (hc:szC c≤100000000):Ev (fun k=>impl_True.f k s z T c) (B (0≤z∧HoldsW 4 s z.toNat T c)):=by
 refine Wp.ev ?_
 unfold impl_True.f
 refine Wp.bindE (impl_WorldOk_ev s z T hs hT) (Wp.iteB (fun h1=>Wp.bindE (impl_ClauseOk_ev s hs c (by omega)) (Wp.iteB (fun h2=>Wp.bindE (impl_ClauseVars_ev c hc) (Wp.ite (fun h3=>?_) (fun h3=>Wp.ret ?_))) (fun h2=>Wp.ret ?_))) (fun h1=>Wp.ret ?_))
 ·have e:z=((z.toNat:Nat):Int):=by omega
  have:=impl_always_ev hs h1.2 c hc h2.lits h2.vars
  rw [←e] at this
  refine Wp.bindE this (Wp.ret (B_congr ⟨fun h=>⟨h1.1,h1.2,h2,by omega,?_⟩,fun h=>?_⟩))
  ·rw [←e];exact h
  ·have:=h.2.2.2.2;rw [←e] at this;exact this
 ·exact eqB.2 ⟨fun h=>absurd h (by decide),fun h=>absurd h.2.2.2.1 (by omega)⟩
 ·exact eqB.2 ⟨fun h=>absurd h (by decide),fun h=>absurd h.2.2.1 h2⟩
 ·exact eqB.2 ⟨fun h=>absurd h (by decide),fun h=>absurd ⟨h.1,h.2.1⟩ h1⟩
theorem spec_l24Power_ev (z:Nat) (hz:1≤z∧z≤4) (a:Nat) (ha:a≤4):Ev (fun k=>fQ39.f k z a) ((z ^ a:Nat):Int):=by
 unfold fQ39.f
 refine Wp.ev (Wp.cnt1 a (by omega) (fun k i s=>fQ39.l0 k z a s i) (fun i s=>s=((z ^ i:Nat):Int)) ?_ ?_ 1 rfl)
 ·intro i s hi hw hI ih
  refine Wp.step (fun k=>by rw [fQ39.l0]) ?_
  have hm:wrap64 (s*z)=((z ^ (i+1):Nat):Int):=by
   subst hI
   have:i=0∨i=1∨i=2∨i=3:=by omega
   rcases z4 hz with rfl | rfl | rfl | rfl <;> rcases this with rfl | rfl | rfl | rfl <;> decide+kernel
  rw [hw.e,hm]
  exact Wp.itet (by omega) (ih _ rfl)
 ·intro s hI
  refine Wp.step (fun k=>by rw [fQ39.l0]) ?_
  exact Wp.itef (by omega) (Wp.ret hI)
theorem twoW_ev {z:Nat} {T:List (List Int)} {f:Nat} (hf:f<T.length) (h:Sq z (rd_Ls_i64 T f)) {a b:Int} (ha:0≤a∧a<z) (hb:0≤b∧b<z):Ev (fun _=>fQ69.f z T f a b) (opw z (rd_Ls_i64 T f) a b):=by
 obtain ⟨h0,h1,h2,h3⟩:=opidx h ha hb
 refine Wp.ev ?_
 unfold fQ69.f
 rw [h0,h1]
 exact Wp.itet (Int.natCast_nonneg _) (Wp.itet (by omega) (Wp.itet h2 (Wp.itet h3 (Wp.ret rfl))))
theorem spec_l24Blind_ev {z:Nat} {T:List (List Int)} {f:Nat} (hf:f<T.length) (h:Sq z (rd_Ls_i64 T f)):Ev (fun k=>fQ20.f k z T f) (B (Indiff z (rd_Ls_i64 T f))):=by
 have hz:z≤1000000000:=by have:=h.1.2;omega
 unfold fQ20.f
 refine (Wp.all (Φ:=fun a=>∀b:Nat,b<z→opw z (rd_Ls_i64 T f) a b=opw z (rd_Ls_i64 T f) b a∧∀c:Nat,c<z→opw z (rd_Ls_i64 T f) (opw z (rd_Ls_i64 T f) a b) c=opw z (rd_Ls_i64 T f) a (opw z (rd_Ls_i64 T f) b c)) (Ψ:=True) z hz (fun k i=>fQ20.l0 k f i z T) ?_ ?_).val (B_congr ?_)
 ·intro a P hi hw hT hF
  refine Wp.step (fun k=>by rw [fQ20.l0]) ?_
  refine Wp.itet (by omega) (Wp.allP (Φ:=fun b=>opw z (rd_Ls_i64 T f) a b=opw z (rd_Ls_i64 T f) b a∧∀c:Nat,c<z→opw z (rd_Ls_i64 T f) (opw z (rd_Ls_i64 T f) a b) c=opw z (rd_Ls_i64 T f) a (opw z (rd_Ls_i64 T f) b c)) z hz (fun k i=>fQ20.l1 k f a i z T) ?_ ?_ hF)
  ·intro b hj hwb hT2 hF2
   refine Wp.step (fun k=>by rw [fQ20.l1]) ?_
   have rab:=opw_rng h (a:=a) (b:=b) (by omega) (by omega)
   refine Wp.itet (by omega) (Wp.bindE (twoW_ev hf h (by omega) (by omega)) (Wp.bindE (twoW_ev hf h (by omega) (by omega)) (Wp.ite (fun hab=>?_) (fun hab=>Wp.ret (hF2 (fun h=>hab h.1))))))
   refine Wp.allP (Φ:=fun c=>opw z (rd_Ls_i64 T f) (opw z (rd_Ls_i64 T f) a b) c=opw z (rd_Ls_i64 T f) a (opw z (rd_Ls_i64 T f) b c)) z hz (fun k i=>fQ20.l2 k f a b i z T) ?_ ?_ (fun h3=>hF2 (fun h=>h3 h.2))
   ·intro c hc hwc hT3 hF3
    refine Wp.step (fun k=>by rw [fQ20.l2]) ?_
    have rbc:=opw_rng h (a:=b) (b:=c) (by omega) (by omega)
    rw [hwc.e]
    exact Wp.itet (by omega) (Wp.bindE (twoW_ev hf h (by omega) (by omega)) (Wp.bindE (twoW_ev hf h rab (by omega)) (Wp.bindE (twoW_ev hf h (by omega) (by omega)) (Wp.bindE (twoW_ev hf h (by omega) rbc) (Wp.ite (fun he=>hT3 he) (fun he=>Wp.ret (hF3 he)))))))
   ·intro hall
    refine Wp.step (fun k=>by rw [fQ20.l2]) ?_
    rw [hwb.e]
    exact Wp.itef (by omega) (hT2 ⟨hab,hall⟩)
  ·intro hall
   refine Wp.step (fun k=>by rw [fQ20.l1]) ?_
   rw [hw.e]
   exact Wp.itef (by omega) (hT hall)
 ·intro _
  refine Wp.step (fun k=>by rw [fQ20.l0]) ?_
  exact Wp.itef (by omega) (Wp.ret (eqB.2 ⟨fun _=>trivial,fun _=>rfl⟩))
 ·constructor
  ·rintro ⟨hh,_⟩ a ha b hb c hc
   exact ⟨(hh a ha b hb).1,(hh a ha b hb).2 c hc⟩
  ·intro hh
   have hz1:=h.1.1
   exact ⟨fun a ha b hb=>⟨(hh a ha b hb 0 (by omega)).1,fun c hc=>(hh a ha b hb c hc).2⟩,trivial⟩
theorem spec_WorldOk_ev (s:List I_Sym) (z:Int) (T:List (List Int)) (hs:Names s) (hT:Rows T):Ev (fun k=>fQ24.f k s z T) (B (0≤z∧WorldOk s z.toNat T)):=by
 refine Wp.ev ?_
 unfold fQ24.f
 refine Wp.bindE (spec_SigOk_ev s hs) (Wp.iteB (fun h1=>Wp.bindE (spec_l1In_ev _ _ _) (Wp.iteB (fun hz=>Wp.ite (fun h2=>?_) (fun h2=>Wp.ret ?_)) (fun hz=>Wp.ret ?_))) (fun h1=>Wp.ret ?_))
 ·obtain ⟨z,rfl⟩:∃n:Nat,z=n:=⟨z.toNat,by omega⟩
  refine ((Wp.all (Φ:=fun i=>RowOk s z T i) (Ψ:=True) s.length hs.1 (fun k i=>fQ24.l0 k s i z T) ?_ ?_).val ?_).wp rfl
  ·intro i P hi hw hT' hF
   refine Wp.step (fun k=>by rw [fQ24.l0]) ?_
   have hrow:=hT _ (rdRow_mem (T:=T) (i:=i) (by omega) (by omega))
   have sig:=h1.1 i hi
   have s0:=sig.2.2.1
   obtain ⟨a,ha⟩:∃a:Nat,(rd_I_Sym s i).f1=a:=⟨(rd_I_Sym s i).f1.toNat,by omega⟩
   have hpw:Ev (fun k=>fQ39.f k z (rd_I_Sym s i).f1) ((z ^ (rd_I_Sym s i).f1.toNat:Nat):Int):=by
    rw [ha];exact spec_l24Power_ev z (by omega) a (by omega)
   refine Wp.itet (by omega) (Wp.itet (Int.natCast_nonneg _) (Wp.itet (by omega) (Wp.bindE hpw (Wp.ite (fun h3=>?_) (fun h3=>Wp.ret (hF (fun h=>h3 (by rw [h.1]))))))))
   have ew:wrap64 ((z:Int) - 1)=(z:Int) - 1:=wrap_id (by omega) (by omega)
   refine Wp.allP (Φ:=fun j=>0≤rd (rd_Ls_i64 T i) j∧rd (rd_Ls_i64 T i) j≤(z:Int) - 1) (rd_Ls_i64 T i).length hrow (fun k j=>fQ24.l1 k s i j z T) ?_ ?_ ?_
   ·intro j hj hwj hT2 hF2
    refine Wp.step (fun k=>by rw [fQ24.l1]) ?_
    rw [hwj.e,ew]
    exact Wp.itet (Int.natCast_nonneg _) (Wp.itet (by omega) (Wp.itet (by omega) (Wp.itet (Int.natCast_nonneg _) (Wp.bindE (spec_l1In_ev _ _ _) (Wp.iteB (fun h=>hT2 h) (fun h=>Wp.ret (hF2 h)))))))
   ·intro hall
    refine Wp.step (fun k=>by rw [fQ24.l1]) ?_
    have hR:InR z (rd_Ls_i64 T i):=inR_rd.2 (fun ⟨j,hj,hn⟩=>hn (hall j hj))
    rw [hw.e]
    refine Wp.itet (Int.natCast_nonneg _) (Wp.itet (by omega) (Wp.itef (by omega) (Wp.itet (by omega) (Wp.ite (fun hac=>?_) (fun hac=>hT' ⟨by omega,hR,fun h=>absurd h hac⟩)))))
    have sq:Sq z (rd_Ls_i64 T i):=by
     refine ⟨by omega,?_,hR⟩
     have e2:=sig.2.2.2 hac
     rw [e2] at h3
     have h3':(rd_Ls_i64 T i).length=z ^ 2:=by exact Int.ofNat.inj h3
     rw [h3',Nat.pow_two]
    exact Wp.bindE (spec_l24Blind_ev (by omega) sq) (Wp.iteB (fun h=>hT' ⟨by omega,hR,fun _=>h⟩) (fun h=>Wp.ret (hF (fun h2=>h (h2.2.2 hac)))))
   ·intro hn
    refine hF (fun h=>hn (fun j hj=>?_))
    have:=h.2.1 _ (rd_mem (t:=rd_Ls_i64 T i) (i:=j) (by omega) (by omega))
    omega
  ·intro _
   refine Wp.step (fun k=>by rw [fQ24.l0]) ?_
   exact Wp.itef (by omega) (Wp.ret (eqB.2 ⟨fun _=>trivial,fun _=>rfl⟩))
  ·exact B_congr ⟨fun h=>⟨by omega,h1,by omega,by omega,h.1⟩,fun h=>⟨h.2.2.2.2,trivial⟩⟩
 ·exact eqB.2 ⟨fun h=>absurd h (by decide),fun h=>absurd h.2.2.2.1 (by omega)⟩
 ·exact eqB.2 ⟨fun h=>absurd h (by decide),fun h=>by have:=h.2.2.1;exact absurd (by omega) hz⟩
 ·exact eqB.2 ⟨fun h=>absurd h (by decide),fun h=>absurd h.2.1 h1⟩
def dgs (z:Nat):Nat→Nat→List Nat
 | 0,_=>[]
 | r+1,k=>k % z::dgs z r (k / z)
def plc (z:Nat):List Nat→Nat
 | []=>0
 | d::l=>d+z*plc z l
def ofN (l:List Nat):List Int:=l.map fun (n:Nat)=>(n:Int)
theorem ofN_len (l:List Nat):(ofN l).length=l.length:=List.length_map ..
theorem ofN_rd {l:List Nat} {i:Nat} (h:i<l.length):rd (ofN l) (i:Int)=((l.getD i 0:Nat):Int):=by
 show (ofN l).getD (i:Int).toNat 0=_
 rw [Int.toNat_natCast,List.getD_eq_getElem?_getD,List.getD_eq_getElem?_getD,ofN,List.getElem?_map,List.getElem?_eq_getElem h]
 rfl
theorem dgs_len (z r k:Nat):(dgs z r k).length=r:=by
 induction r generalizing k with
 | zero=>rfl
 | succ r ih=>rw [dgs,List.length_cons,ih]
theorem dgs_lt {z:Nat} (hz:0<z):∀(r k:Nat),∀d∈dgs z r k,d<z:=by
 intro r
 induction r with
 | zero=>intro k d hd;cases hd
 | succ r ih=>
  intro k d hd
  rcases List.mem_cons.1 hd with rfl | hd
  ·exact Nat.mod_lt _ hz
  ·exact ih _ d hd
theorem plc_lt {z:Nat} (hz:0<z):∀(l:List Nat),(∀d∈l,d<z)→plc z l<z ^ l.length:=by
 intro l
 induction l with
 | nil=>intro _;simp [plc]
 | cons d l ih=>
  intro h
  have h1:=h d List.mem_cons_self
  have h2:=ih (fun x hx=>h x (List.mem_cons_of_mem _ hx))
  rw [plc,List.length_cons,Nat.pow_succ,Nat.mul_comm (z ^ l.length)]
  have:z*(plc z l+1)≤z*z ^ l.length:=Nat.mul_le_mul_left _ h2
  rw [Nat.mul_add] at this
  omega
theorem dgs_plc {z:Nat} (hz:0<z):∀(l:List Nat),(∀d∈l,d<z)→dgs z l.length (plc z l)=l:=by
 intro l
 induction l with
 | nil=>intro _;rfl
 | cons d l ih=>
  intro h
  have h1:=h d List.mem_cons_self
  rw [List.length_cons,dgs,plc,Nat.add_mul_mod_self_left,Nat.mod_eq_of_lt h1,Nat.add_mul_div_left _ _ hz,Nat.div_eq_of_lt h1,Nat.zero_add,ih (fun x hx=>h x (List.mem_cons_of_mem _ hx))]
theorem pow64 {z r:Nat} (hz:z≤4) (hr:r≤3):z ^ r≤64:=by
 have h1:z ^ r≤4 ^ r:=Nat.pow_le_pow_left hz r
 have h2:4 ^ r≤4 ^ 3:=Nat.pow_le_pow_right (by omega) hr
 omega
theorem tmod_nat (a b:Nat):Int.tmod (a:Int) (b:Int)=((a % b:Nat):Int):=by
 rw [Int.tmod_eq_emod_of_nonneg (by omega)];exact (Int.natCast_emod a b).symm
theorem tdiv_nat (a b:Nat):Int.tdiv (a:Int) (b:Int)=((a / b:Nat):Int):=by
 rw [Int.tdiv_eq_ediv_of_nonneg (by omega)];exact (Int.natCast_ediv a b).symm
theorem wrN {m:Nat} (h:m≤1000000000000):wrap64 (m:Int)=(m:Int):=wrap_id (by omega) (by omega)
theorem impl_digitsOf_ev (z:Nat) (hz:1≤z) (k:Nat) (hk:k≤1000000000) (r:Nat) (hr:r≤3):Ev (fun q=>fQ54.f q (k:Int) (z:Int) (r:Int)) (ofN (dgs z r k)):=by
 unfold fQ54.f
 refine Wp.ev (Wp.cnt2 r (by omega) (fun q i x0 acc=>fQ54.l0 q x0 z acc r i) (fun i x0 acc=>∃n:Nat,x0=n∧n≤k∧acc.length=i∧acc++ofN (dgs z (r - i) n)=ofN (dgs z r k)) ?_ ?_ (k:Int) ([]:List Int) ⟨k,rfl,Nat.le_refl _,rfl,by simp⟩)
 ·rintro i x0 acc hi hw ⟨n,rfl,hn,hl,he⟩ ih
  refine Wp.step (fun k=>by rw [fQ54.l0]) ?_
  have hd:wrap64 ((n / z:Nat):Int)=((n / z:Nat):Int):=wrN (Nat.le_trans (Nat.div_le_self n z) (by omega))
  simp only [hw.e,tmod_nat,tdiv_nat,hd]
  refine Wp.itet (by omega) (Wp.itef (by omega) (Wp.itet (by rw [hl];simp;omega) ?_))
  refine ih _ _ ⟨n / z,rfl,Nat.le_trans (Nat.div_le_self _ _) hn,by simp [hl],?_⟩
  rw [←he,show r - i=(r - (i+1))+1 from by omega,dgs]
  simp [ofN]
 ·rintro x0 acc ⟨n,rfl,_,hl,he⟩
  refine Wp.step (fun k=>by rw [fQ54.l0]) ?_
  refine Wp.itef (by omega) (Wp.ret ?_)
  rw [Nat.sub_self,dgs] at he
  simpa [ofN] using he
theorem impl_placeOf_ev (z:Nat) (hz:1≤z∧z≤4) (l:List Nat) (hl:l.length≤3) (h:∀d∈l,d<z):Ev (fun q=>fQ43.f q (ofN l) (z:Int)) ((plc z l:Nat):Int):=by
 unfold fQ43.f
 have key:∀(j:Nat),j≤l.length→Wp (fun q=>fQ43.l0 q (ofN l) z ((plc z (l.drop j):Nat):Int) ((j:Int) - 1)) (fun r=>r=((plc z l:Nat):Int)):=by
  intro j
  induction j with
  | zero=>
   intro _
   refine Wp.step (fun k=>by rw [fQ43.l0]) ?_
   refine Wp.itef (by omega) (Wp.ret ?_)
   rw [List.drop_zero]
  | succ j ih=>
   intro hj
   refine Wp.step (fun k=>by rw [fQ43.l0]) ?_
   have hdr:l.drop j=l.getD j 0::l.drop (j+1):=by
    rw [List.drop_eq_getElem_cons (by omega),List.getD_eq_getElem?_getD,List.getElem?_eq_getElem (by omega)];rfl
   have hb:=plc_lt (by omega:0<z) (l.drop (j+1)) (fun d hd=>h d (List.mem_of_mem_drop hd))
   have hb2:=plc_lt (by omega:0<z) (l.drop j) (fun d hd=>h d (List.mem_of_mem_drop hd))
   have hp:z ^ (l.drop (j+1)).length≤64:=pow64 hz.2 (by rw [List.length_drop];omega)
   have hp2:z ^ (l.drop j).length≤64:=pow64 hz.2 (by rw [List.length_drop];omega)
   have e1:((j+1:Nat):Int) - 1=(j:Int):=by omega
   rw [e1]
   have hm:((plc z (l.drop (j+1)):Nat):Int)*(z:Int)=((plc z (l.drop (j+1))*z:Nat):Int):=by rw [Int.natCast_mul]
   have hle:plc z (l.drop (j+1))*z≤64*4:=Nat.mul_le_mul (by omega) hz.2
   have w1:wrap64 (((plc z (l.drop (j+1)):Nat):Int)*(z:Int))=((plc z (l.drop (j+1))*z:Nat):Int):=by rw [hm];exact wrap_id (by omega) (by omega)
   have hrd:rd (ofN l) (j:Int)=((l.getD j 0:Nat):Int):=ofN_rd (by omega)
   have hpl:plc z (l.drop j)=plc z (l.drop (j+1))*z+l.getD j 0:=by rw [hdr,plc,Nat.mul_comm];omega
   have w2:wrap64 (((plc z (l.drop (j+1))*z:Nat):Int)+((l.getD j 0:Nat):Int))=((plc z (l.drop j):Nat):Int):=by
    rw [←Int.natCast_add,←hpl];exact wrap_id (by omega) (by omega)
   have w3:wrap64 ((j:Int) - 1)=(j:Int) - 1:=wrap_id (by omega) (by omega)
   simp only [w1,hrd,w2,w3]
   exact Wp.itet (by omega) (Wp.itet (by omega) (Wp.itet (by rw [ofN_len];omega) (ih (by omega))))
 have w0:wrap64 (((ofN l).length:Int) - 1)=((l.length:Nat):Int) - 1:=by rw [ofN_len];exact wrap_id (by omega) (by omega)
 simp only [w0]
 have:=key l.length (Nat.le_refl _)
 rw [List.drop_length] at this
 exact Wp.ev this
theorem take_snoc {f:Nat→Nat} {l:List Nat} {i:Nat} (h:i<l.length):ofN ((l.take i).map f)++[((f (l.getD i 0):Nat):Int)]=ofN ((l.take (i+1)).map f):=by
 have e:l.take (i+1)=l.take i++[l.getD i 0]:=by
  rw [List.take_add_one,List.getElem?_eq_getElem h,List.getD_eq_getElem?_getD,List.getElem?_eq_getElem h]
  rfl
 rw [e]
 simp [ofN]
theorem rdW (x:I_World):rd_I_World ([x]:List I_World) 0=x:=rfl
theorem impl_each1_1_ev (a:Nat) (ha:1≤a) (T:List (List Int)) (l:List Nat) (hl:l.length≤3):Ev (fun q=>fQ7.f q (ofN l) ([⟨(a:Int),T⟩]:List I_World) 0) (ofN (l.map fun d=>d % a)):=by
 unfold fQ7.f
 rw [ofN_len]
 refine Wp.ev (Wp.cnt1 l.length (by omega) (fun q i acc=>fQ7.l0 q ([⟨(a:Int),T⟩]:List I_World) 0 acc (ofN l) l.length i) (fun i acc=>acc=ofN ((l.take i).map fun d=>d % a)) ?_ ?_ ([]:List Int) (by simp [ofN]))
 ·rintro i acc hi hw rfl ih
  refine Wp.step (fun k=>by rw [fQ7.l0]) ?_
  have hf:fQ51.f (rd (ofN l) (i:Int)) ([⟨(a:Int),T⟩]:List I_World) 0=some (((l.getD i 0 % a:Nat)):Int):=by
   unfold fQ51.f
   rw [ofN_rd hi]
   show (if (a:Int)=0 then none else some (Int.tmod _ (a:Int)))=_
   rw [if_neg (by omega),tmod_nat]
  simp only [hw.e]
  refine Wp.itet (by omega) (Wp.itet (by omega) (Wp.itet (by rw [ofN_len];omega) (Wp.bindE (Ev.cst hf) (Wp.itet (by rw [ofN_len];simp;omega) ?_))))
  exact ih _ (take_snoc hi)
 ·rintro acc rfl
  refine Wp.step (fun k=>by rw [fQ7.l0]) ?_
  refine Wp.itef (by omega) (Wp.ret ?_)
  rw [List.take_length]
theorem impl_each1_2_ev (a:Nat) (ha:1≤a) (T:List (List Int)) (l:List Nat) (hl:l.length≤3) (hd:∀d∈l,d≤1000):Ev (fun q=>fQ8.f q (ofN l) ([⟨(a:Int),T⟩]:List I_World) 0) (ofN (l.map fun d=>d / a)):=by
 unfold fQ8.f
 rw [ofN_len]
 refine Wp.ev (Wp.cnt1 l.length (by omega) (fun q i acc=>fQ8.l0 q ([⟨(a:Int),T⟩]:List I_World) 0 acc (ofN l) l.length i) (fun i acc=>acc=ofN ((l.take i).map fun d=>d / a)) ?_ ?_ ([]:List Int) (by simp [ofN]))
 ·rintro i acc hi hw rfl ih
  refine Wp.step (fun k=>by rw [fQ8.l0]) ?_
  have hm:l.getD i 0≤1000:=by
   rw [List.getD_eq_getElem?_getD,List.getElem?_eq_getElem hi]
   exact hd _ (List.getElem_mem hi)
  have hf:fQ34.f (rd (ofN l) (i:Int)) ([⟨(a:Int),T⟩]:List I_World) 0=some (((l.getD i 0 / a:Nat)):Int):=by
   unfold fQ34.f
   rw [ofN_rd hi]
   show (if (a:Int)=0 then none else some (wrap64 (Int.tdiv _ (a:Int))))=_
   rw [if_neg (by omega),tdiv_nat,wrN (Nat.le_trans (Nat.div_le_self _ a) (by omega))]
  simp only [hw.e]
  refine Wp.itet (by omega) (Wp.itet (by omega) (Wp.itet (by rw [ofN_len];omega) (Wp.bindE (Ev.cst hf) (Wp.itet (by rw [ofN_len];simp;omega) ?_))))
  exact ih _ (take_snoc hi)
 ·rintro acc rfl
  refine Wp.step (fun k=>by rw [fQ8.l0]) ?_
  refine Wp.itef (by omega) (Wp.ret ?_)
  rw [List.take_length]
noncomputable def ar (s:List I_Sym) (f:Nat):Nat:=(rd_I_Sym s f).f1.toNat
noncomputable def tab (s:List I_Sym) (z:Nat) (val:Nat→Nat→Int):List (List Int):=(List.range s.length).map fun f=>(List.range (z ^ ar s f)).map (val f)
theorem range_snoc {α:Type} (g:Nat→α) (n:Nat):(List.range n).map g++[g n]=(List.range (n+1)).map g:=by rw [List.range_succ,List.map_append];rfl
theorem tabled_Product_ev (s:List I_Sym) (hs:s.length≤1000000000) (har:∀i,i<s.length→0≤(rd_I_Sym s i).f1∧(rd_I_Sym s i).f1≤3) (z:Nat) (hz:1≤z∧z≤4) (X Y:List I_World) (val:Nat→Nat→Int)
  (hv:∀f,f<s.length→∀k,k<z ^ ar s f→Ev (fun q=>fQ40.f q (f:Int) (ofN (dgs z (ar s f) k)) X 0 Y 0) (val f k)):Ev (fun q=>fQ4.f q s (z:Int) X 0 Y 0) ((z:Int),tab s z val):=by
 unfold fQ4.f
 refine Wp.ev (Wp.cnt1 s.length hs (fun q i T=>fQ4.l0 q (z:Int) X 0 Y 0 s (s.length:Int) i 0 (z:Int) T) (fun i T=>T=(List.range i).map fun f=>(List.range (z ^ ar s f)).map (val f)) ?_ ?_ ([]:List (List Int)) rfl)
 ·rintro i T hi hw rfl ih
  refine Wp.step (fun k=>by rw [fQ4.l0]) ?_
  obtain ⟨a0,a3⟩:=har i hi
  have ha:((ar s i:Nat):Int)=(rd_I_Sym s (i:Int)).f1:=Int.toNat_of_nonneg a0
  have h3:ar s i≤3:=by omega
  have h64:=pow64 hz.2 h3
  refine Wp.itet (by omega) (Wp.itet (by omega) (Wp.itet (by omega) (Wp.bindE (impl_placesOf_ev z hz _ ⟨a0,a3⟩) ?_)))
  show Wp (fun q=>fQ4.l1 q (z:Int) X 0 Y 0 (i:Int) ([]:List Int) s (s.length:Int) (i:Int) ((z ^ ar s i:Nat):Int) 0 0 (z:Int) ((List.range i).map fun f=>(List.range (z ^ ar s f)).map (val f)) (rd_I_Sym s (i:Int)).f0 (rd_I_Sym s (i:Int)).f1 (rd_I_Sym s (i:Int)).f2) _
  refine Wp.cnt1 (z ^ ar s i) (by omega) (fun q k row=>fQ4.l1 q (z:Int) X 0 Y 0 (i:Int) row s (s.length:Int) (i:Int) ((z ^ ar s i:Nat):Int) k 0 (z:Int) ((List.range i).map fun f=>(List.range (z ^ ar s f)).map (val f)) (rd_I_Sym s (i:Int)).f0 (rd_I_Sym s (i:Int)).f1 (rd_I_Sym s (i:Int)).f2) (fun k row=>row=(List.range k).map (val i)) ?_ ?_ ([]:List Int) rfl
  ·rintro k row hk hwk rfl ih2
   refine Wp.step (fun k=>by rw [fQ4.l1]) ?_
   have hd:=impl_digitsOf_ev z hz.1 k (by omega) (ar s i) h3
   rw [ha] at hd
   simp only [hwk.e]
   refine Wp.itet (by omega) (Wp.bindE hd (Wp.bindE (hv i hi k hk) (Wp.itet (by simp;omega) ?_)))
   exact ih2 _ (range_snoc _ _)
  ·rintro row rfl
   refine Wp.step (fun k=>by rw [fQ4.l1]) ?_
   simp only [hw.e]
   refine Wp.itef (by omega) (Wp.itet (by simp;omega) ?_)
   exact ih _ (range_snoc (fun f=>(List.range (z ^ ar s f)).map (val f)) i)
 ·rintro T rfl
  refine Wp.step (fun k=>by rw [fQ4.l0]) ?_
  exact Wp.itef (by omega) (Wp.ret rfl)
def prodVal (a b:Nat) (Ta Tb:List (List Int)) (f:Nat) (ds:List Nat):Int:=rd (rd_Ls_i64 Ta f) ((plc a (ds.map fun d=>d % a):Nat):Int)+(a:Int)*rd (rd_Ls_i64 Tb f) ((plc b (ds.map fun d=>d / a):Nat):Int)
theorem inR_at {z:Nat} {t:List Int} (h:InR z t) {i:Int} (h0:0≤i) (h1:i<(t.length:Int)):0≤rd t i∧rd t i<(z:Int):=h _ (rd_mem h0 h1)
theorem mods_lt {a:Nat} (ha:1≤a) (l:List Nat):∀d∈l.map (fun d=>d % a),d<a:=by
 intro d hd
 obtain ⟨x,_,rfl⟩:=List.mem_map.1 hd
 exact Nat.mod_lt _ ha
theorem divs_lt {a b:Nat} (l:List Nat) (h:∀d∈l,d<a*b):∀d∈l.map (fun d=>d / a),d<b:=by
 intro d hd
 obtain ⟨x,hx,rfl⟩:=List.mem_map.1 hd
 exact Nat.div_lt_of_lt_mul (h x hx)
theorem impl_Product_1_ev {a b:Nat} (ha:1≤a) (hb:1≤b) (hab:a*b≤4) {Ta Tb:List (List Int)} {f:Nat} (hfa:f<Ta.length) (hfb:f<Tb.length) (ds:List Nat) (hl:ds.length≤3) (hd:∀d∈ds,d<a*b)
  (h1:(rd_Ls_i64 Ta f).length=a ^ ds.length) (h2:InR a (rd_Ls_i64 Ta f)) (h3:(rd_Ls_i64 Tb f).length=b ^ ds.length) (h4:InR b (rd_Ls_i64 Tb f)):
  Ev (fun q=>fQ40.f q (f:Int) (ofN ds) ([⟨(a:Int),Ta⟩]:List I_World) 0 ([⟨(b:Int),Tb⟩]:List I_World) 0) (prodVal a b Ta Tb f ds):=by
 have ha4:a≤4:=Nat.le_trans (Nat.le_mul_of_pos_right a hb) hab
 have hb4:b≤4:=Nat.le_trans (Nat.le_mul_of_pos_left b ha) hab
 have p1:=plc_lt ha _ (mods_lt ha ds)
 have p2:=plc_lt hb _ (divs_lt ds hd)
 rw [List.length_map] at p1 p2
 have r1:=inR_at h2 (i:=((plc a (ds.map fun d=>d % a):Nat):Int)) (by omega) (by rw [h1];omega)
 have r2:=inR_at h4 (i:=((plc b (ds.map fun d=>d / a):Nat):Int)) (by omega) (by rw [h3];omega)
 unfold fQ40.f
 simp only [rdW]
 refine Wp.ev (Wp.itet (by omega) (Wp.itet (by omega) (Wp.bindE (impl_each1_1_ev a ha Ta ds hl) (Wp.bindE (impl_placeOf_ev a ⟨ha,ha4⟩ _ (by rw [List.length_map];exact hl) (mods_lt ha ds)) (Wp.itet (by omega) (Wp.itet (by rw [h1];omega) (Wp.itet (by omega) (Wp.bindE (impl_each1_2_ev a ha Ta ds hl (fun d h=>by have:=hd d h;omega)) (Wp.bindE (impl_placeOf_ev b ⟨hb,hb4⟩ _ (by rw [List.length_map];exact hl) (divs_lt ds hd)) (Wp.itet (by omega) (Wp.itet (by rw [h3];omega) (Wp.ret ?_))))))))))))
 have hm:0≤(a:Int)*rd (rd_Ls_i64 Tb f) ((plc b (ds.map fun d=>d / a):Nat):Int):=Int.mul_nonneg (by omega) r2.1
 have hm2:(a:Int)*rd (rd_Ls_i64 Tb f) ((plc b (ds.map fun d=>d / a):Nat):Int)≤(a:Int)*(b:Int):=Int.mul_le_mul_of_nonneg_left (by omega) (by omega)
 have hab':(a:Int)*(b:Int)≤4:=by rw [←Int.natCast_mul];omega
 rw [wrap_id (x:=(a:Int)*_) (by omega) (by omega),wrap_id (by omega) (by omega)]
 rfl
theorem plc_snoc (z:Nat) (l:List Nat) (d:Nat):plc z (l++[d])=plc z l+z ^ l.length*d:=by
 induction l with
 | nil=>simp [plc]
 | cons x l ih=>rw [List.cons_append,plc,ih,plc,List.length_cons,Nat.pow_succ,Nat.mul_add,←Nat.mul_assoc,Nat.mul_comm (z ^ l.length) z,Nat.add_assoc]
theorem rd_tab {s:List I_Sym} {z f:Nat} {val:Nat→Nat→Int} (hf:f<s.length):rd_Ls_i64 (tab s z val) (f:Int)=(List.range (z ^ ar s f)).map (val f):=by
 show (tab s z val).getD (f:Int).toNat []=_
 rw [Int.toNat_natCast,List.getD_eq_getElem?_getD,tab,List.getElem?_map,List.getElem?_range hf]
 rfl
theorem rd_rg {n k:Nat} {g:Nat→Int} (hk:k<n):rd ((List.range n).map g) (k:Int)=g k:=by
 show ((List.range n).map g).getD (k:Int).toNat 0=_
 rw [Int.toNat_natCast,List.getD_eq_getElem?_getD,List.getElem?_map,List.getElem?_range hk]
 rfl
theorem tab_len (s:List I_Sym) (z:Nat) (val:Nat→Nat→Int):(tab s z val).length=s.length:=by rw [tab,List.length_map,List.length_range]
def Op2 (z:Nat) (t:List Int) (m:Nat→Nat→Nat):Prop:=(∀p,p<z→∀q,q<z→opw z t p q=(m p q:Nat)∧m p q<z)
def Blind2 (z:Nat) (m:Nat→Nat→Nat):Prop:=∀p,p<z→∀q,q<z→∀r,r<z→m p q=m q p∧m (m p q) r=m p (m q r)
theorem op2_of {z:Nat} {t:List Int} (h:Sq z t):Op2 z t (fun p q=>(opw z t p q).toNat):=by
 intro p hp q hq
 have:=opw_rng h (a:=p) (b:=q) (by omega) (by omega)
 exact ⟨by show _=(((opw z t p q).toNat:Nat):Int);omega,by show (opw z t p q).toNat<z;omega⟩
theorem op2_indiff {z:Nat} {t:List Int} {m:Nat→Nat→Nat} (h:Op2 z t m):Indiff z t↔Blind2 z m:=by
 have e:∀a:Nat,a<z→∀b:Nat,b<z→∀c:Nat,c<z→(opw z t a b=opw z t b a∧opw z t (opw z t a b) c=opw z t a (opw z t b c))=(m a b=m b a∧m (m a b) c=m a (m b c)):=by
  intro a ha b hb c hc
  rw [(h a ha b hb).1,(h b hb a ha).1,(h b hb c hc).1,(h _ (h a ha b hb).2 c hc).1,(h a ha _ (h b hb c hc).2).1]
  simp only [Int.natCast_inj]
 constructor
 ·intro H a ha b hb c hc
  rw [←e a ha b hb c hc];exact H a ha b hb c hc
 ·intro H a ha b hb c hc
  rw [e a ha b hb c hc];exact H a ha b hb c hc
theorem sig_ar {s:List I_Sym} (h:SigOk s):∀i,i<s.length→0≤(rd_I_Sym s i).f1∧(rd_I_Sym s i).f1≤3:=fun i hi=>(h.1 i hi).2.2.1
theorem sig_ar3 {s:List I_Sym} (h:SigOk s) {i:Nat} (hi:i<s.length):ar s i≤3:=by
 have:=sig_ar h i hi
 show (rd_I_Sym s i).f1.toNat≤3
 omega
theorem sig_ar2 {s:List I_Sym} (h:SigOk s) {i:Nat} (hi:i<s.length) (h2:(rd_I_Sym s i).f2=true):ar s i=2:=by
 have:=(h.1 i hi).2.2.2 h2
 show (rd_I_Sym s i).f1.toNat=2
 rw [this];rfl
theorem tab_ok {s:List I_Sym} (h:SigOk s) {z:Nat} (hz:1≤z∧z≤4) {val:Nat→Nat→Int} (hr:∀f,f<s.length→∀k,k<z ^ ar s f→0≤val f k∧val f k<(z:Int)) (hi:∀f,f<s.length→(rd_I_Sym s f).f2=true→Blind2 z (fun p q=>(val f (p+z*q)).toNat)):WorldOk s z (tab s z val):=by
 refine ⟨h,hz,tab_len ..,fun i hl=>?_⟩
 rw [RowOk,rd_tab hl]
 refine ⟨by rw [List.length_map,List.length_range];rfl,?_,fun h2=>?_⟩
 ·intro x hx
  obtain ⟨k,hk,rfl⟩:=List.mem_map.1 hx
  exact hr i hl k (List.mem_range.1 hk)
 ·refine (op2_indiff (m:=fun p q=>(val i (p+z*q)).toNat) ?_).2 (hi i hl h2)
  intro p hp q hq
  have hk:p+z*q<z ^ ar s i:=by
   rw [sig_ar2 h hl h2,Nat.pow_two]
   have:z*(q+1)≤z*z:=Nat.mul_le_mul_left _ hq
   rw [Nat.mul_add] at this
   omega
  have:=hr i hl _ hk
  have e:(p:Int)+(z:Int)*(q:Int)=((p+z*q:Nat):Int):=by rw [Int.natCast_add,Int.natCast_mul]
  show rd _ ((p:Int)+(z:Int)*(q:Int))=_∧_
  rw [e,rd_rg hk]
  exact ⟨by show _=(((val i (p+z*q)).toNat:Nat):Int);omega,by show (val i (p+z*q)).toNat<z;omega⟩
theorem wrow_sq {s:List I_Sym} {z:Nat} {T:List (List Int)} (h:WorldOk s z T) {i:Nat} (hi:i<s.length) (h2:(rd_I_Sym s i).f2=true):Sq z (rd_Ls_i64 T i):=by
 have r:=h.2.2.2 i hi
 refine ⟨h.2.1,?_,r.2.1⟩
 rw [r.1,←Nat.pow_two]
 exact congrArg (z ^ ·) (sig_ar2 h.1 hi h2)
theorem wrow_blind {s:List I_Sym} {z:Nat} {T:List (List Int)} (h:WorldOk s z T) {i:Nat} (hi:i<s.length) (h2:(rd_I_Sym s i).f2=true):Blind2 z (fun p q=>(opw z (rd_Ls_i64 T i) p q).toNat):=(op2_indiff (op2_of (wrow_sq h hi h2))).1 ((h.2.2.2 i hi).2.2 h2)
theorem two_dgs {z p q:Nat} (hp:p<z) (hq:q<z):dgs z 2 (p+z*q)=[p,q]:=by
 have hz:0<z:=by omega
 rw [dgs,dgs,dgs,Nat.add_mul_mod_self_left,Nat.mod_eq_of_lt hp,Nat.add_mul_div_left _ _ hz,Nat.div_eq_of_lt hp,Nat.zero_add,Nat.mod_eq_of_lt hq]
theorem wrow_at {s:List I_Sym} {z:Nat} {T:List (List Int)} (h:WorldOk s z T) {i:Nat} (hi:i<s.length) {l:List Nat} (hl:l.length=ar s i) (hd:∀d∈l,d<z):plc z l<(rd_Ls_i64 T i).length∧0≤rd (rd_Ls_i64 T i) ((plc z l:Nat):Int)∧rd (rd_Ls_i64 T i) ((plc z l:Nat):Int)<(z:Int):=by
 have r:=h.2.2.2 i hi
 have hp:=plc_lt (by have:=h.2.1;omega) l hd
 rw [hl] at hp
 have hlen:(rd_Ls_i64 T i).length=z ^ ar s i:=r.1
 have:=inR_at r.2.1 (i:=((plc z l:Nat):Int)) (by omega) (by omega)
 exact ⟨by omega,this.1,this.2⟩
noncomputable def prodV (a b:Nat) (Ta Tb:List (List Int)) (s:List I_Sym) (f k:Nat):Int:=prodVal a b Ta Tb f (dgs (a*b) (ar s f) k)
theorem prodV_rng {s:List I_Sym} {a b:Nat} {Ta Tb:List (List Int)} (ha:WorldOk s a Ta) (hb:WorldOk s b Tb) {f:Nat} (hf:f<s.length) (l:List Nat) (hl:l.length=ar s f) (hd:∀d∈l,d<a*b):0≤prodVal a b Ta Tb f l∧prodVal a b Ta Tb f l<((a*b:Nat):Int):=by
 have r1:=wrow_at ha hf (l:=l.map fun d=>d % a) (by rw [List.length_map];exact hl) (mods_lt ha.2.1.1 l)
 have r2:=wrow_at hb hf (l:=l.map fun d=>d / a) (by rw [List.length_map];exact hl) (divs_lt l hd)
 rw [prodVal]
 obtain ⟨_,u0,u1⟩:=r1
 obtain ⟨_,v0,v1⟩:=r2
 revert u0 u1 v0 v1
 generalize rd (rd_Ls_i64 Ta ↑f) _=u
 generalize rd (rd_Ls_i64 Tb ↑f) _=v
 intro u0 u1 v0 v1
 obtain ⟨u,rfl⟩:=Int.eq_ofNat_of_zero_le u0
 obtain ⟨v,rfl⟩:=Int.eq_ofNat_of_zero_le v0
 have:a*(v+1)≤a*b:=Nat.mul_le_mul_left _ (by omega)
 rw [Nat.mul_add] at this
 rw [←Int.natCast_mul,←Int.natCast_add]
 omega
theorem pair_lt {a b u v:Nat} (hu:u<a) (hv:v<b):u+a*v<a*b:=by
 have:a*(v+1)≤a*b:=Nat.mul_le_mul_left _ hv
 rw [Nat.mul_add] at this
 omega
theorem pair_mod {a u v:Nat} (hu:u<a):(u+a*v) % a=u∧(u+a*v) / a=v:=by
 refine ⟨by rw [Nat.add_mul_mod_self_left,Nat.mod_eq_of_lt hu],by rw [Nat.add_mul_div_left _ _ (by omega),Nat.div_eq_of_lt hu,Nat.zero_add]⟩
theorem prod_ok {s:List I_Sym} {a b:Nat} {Ta Tb:List (List Int)} (ha:WorldOk s a Ta) (hb:WorldOk s b Tb) (hab:a*b≤4):WorldOk s (a*b) (tab s (a*b) (prodV a b Ta Tb s)):=by
 have a1:=ha.2.1.1
 have b1:=hb.2.1.1
 have p1:0<a*b:=Nat.mul_pos a1 b1
 refine tab_ok ha.1 ⟨p1,hab⟩ (fun f hf k hk=>prodV_rng ha hb hf _ (dgs_len ..) (dgs_lt p1 _ _)) (fun f hf h2=>?_)
 have A:=wrow_blind ha hf h2
 have B:=wrow_blind hb hf h2
 have oa:=op2_of (wrow_sq ha hf h2)
 have ob:=op2_of (wrow_sq hb hf h2)
 have e:∀p,p<a*b→∀q,q<a*b→(prodV a b Ta Tb s f (p+a*b*q)).toNat=(opw a (rd_Ls_i64 Ta f) ((p % a:Nat):Int) ((q % a:Nat):Int)).toNat+a*(opw b (rd_Ls_i64 Tb f) ((p / a:Nat):Int) ((q / a:Nat):Int)).toNat:=by
  intro p hp q hq
  have x:=(oa (p % a) (Nat.mod_lt _ a1) (q % a) (Nat.mod_lt _ a1)).1
  have y:=(ob (p / a) (Nat.div_lt_of_lt_mul hp) (q / a) (Nat.div_lt_of_lt_mul hq)).1
  have e1:prodV a b Ta Tb s f (p+a*b*q)=opw a (rd_Ls_i64 Ta f) ((p % a:Nat):Int) ((q % a:Nat):Int)+(a:Int)*opw b (rd_Ls_i64 Tb f) ((p / a:Nat):Int) ((q / a:Nat):Int):=by
   rw [prodV,sig_ar2 ha.1 hf h2,two_dgs hp hq]
   simp [prodVal,plc,opw]
  rw [e1,x,y,←Int.natCast_mul,←Int.natCast_add]
  rfl
 intro p hp q hq r hr
 have pa:=Nat.mod_lt p a1;have qa:=Nat.mod_lt q a1;have ra:=Nat.mod_lt r a1
 have pb:=Nat.div_lt_of_lt_mul hp;have qb:=Nat.div_lt_of_lt_mul hq;have rb:=Nat.div_lt_of_lt_mul hr
 have A1:=A _ pa _ qa _ ra
 have B1:=B _ pb _ qb _ rb
 show (prodV a b Ta Tb s f (p+a*b*q)).toNat=(prodV a b Ta Tb s f (q+a*b*p)).toNat∧(prodV a b Ta Tb s f ((prodV a b Ta Tb s f (p+a*b*q)).toNat+a*b*r)).toNat=(prodV a b Ta Tb s f (p+a*b*(prodV a b Ta Tb s f (q+a*b*r)).toNat)).toNat
 have l1:=pair_lt (oa _ pa _ qa).2 (ob _ pb _ qb).2
 have l2:=pair_lt (oa _ qa _ ra).2 (ob _ qb _ rb).2
 rw [e p hp q hq,e q hq p hp,e q hq r hr,e _ l1 r hr,e p hp _ l2,(pair_mod (oa _ pa _ qa).2).1,(pair_mod (oa _ pa _ qa).2).2,(pair_mod (oa _ qa _ ra).2).1,(pair_mod (oa _ qa _ ra).2).2]
 have both:∀{x y u v:Nat},x=y→u=v→x+a*u=y+a*v:=by rintro x y u v rfl rfl;rfl
 exact ⟨both A1.1 B1.1,both A1.2 B1.2⟩
theorem mul44 {a b:Nat} (ha:a≤4) (hb:b≤4):wrap64 ((a:Int)*(b:Int))=((a*b:Nat):Int):=by
 have:a*b≤4*4:=Nat.mul_le_mul ha hb
 rw [←Int.natCast_mul];exact wrN (by omega)
theorem impl_Product_ok (s:List I_Sym) (hs:Names s) {a b:Nat} {Ta Tb:List (List Int)} (rA:Rows Ta) (rB:Rows Tb) (ha:WorldOk s a Ta) (hb:WorldOk s b Tb):Ev (fun k=>fQ72.f k s a Ta b Tb) (if a*b≤4 then (((a*b:Nat):Int),tab s (a*b) (prodV a b Ta Tb s),true) else (0,[],false)):=by
 unfold fQ72.f
 simp only [rdW,mul44 ha.2.1.2 hb.2.1.2]
 refine Wp.ev (Wp.bindE (impl_WorldOk_ev s a Ta hs rA) (Wp.itetB ⟨by omega,by rw [Int.toNat_natCast];exact ha⟩ (Wp.bindE (impl_WorldOk_ev s b Tb hs rB) (Wp.itetB ⟨by omega,by rw [Int.toNat_natCast];exact hb⟩ ?_))))
 by_cases h:a*b≤4
 ·rw [if_pos h]
  have p1:0<a*b:=Nat.mul_pos ha.2.1.1 hb.2.1.1
  refine Wp.itef (by omega) (Wp.bindE (tabled_Product_ev s hs.1 (sig_ar ha.1) (a*b) ⟨p1,h⟩ _ _ (prodV a b Ta Tb s) ?_) (Wp.ret rfl))
  intro f hf k hk
  have r1:=ha.2.2.2 f hf
  have r2:=hb.2.2.2 f hf
  have l1:f<Ta.length:=by have:=ha.2.2.1;omega
  have l2:f<Tb.length:=by have:=hb.2.2.1;omega
  exact impl_Product_1_ev ha.2.1.1 hb.2.1.1 h l1 l2 _ (by rw [dgs_len];exact sig_ar3 ha.1 hf) (dgs_lt p1 _ _) (by rw [dgs_len];exact r1.1) r1.2.1 (by rw [dgs_len];exact r2.1) r2.2.1
 ·rw [if_neg h]
  exact Wp.itet (by omega) (Wp.ret rfl)
theorem ine0 {a:Nat} (h:0<a):¬(a:Int)=0:=by omega
theorem ilt {a b:Nat} (h:a<b):(a:Int)<(b:Int):=by omega
theorem inlt {a b:Nat} (h:b≤a):¬(a:Int)<(b:Int):=by omega
theorem wrS {m n:Nat} (h:m+n≤64):wrap64 ((m:Int)+(n:Int))=((m+n:Nat):Int):=by rw [←Int.natCast_add];exact wrN (by omega)
theorem wrM {m n:Nat} (h:m*n≤64):wrap64 ((m:Int)*(n:Int))=((m*n:Nat):Int):=by rw [←Int.natCast_mul];exact wrN (by omega)
theorem spec_Product_row (s:List I_Sym) {a b:Nat} {Ta Tb:List (List Int)} (ha:WorldOk s a Ta) (hb:WorldOk s b Tb) (hab:a*b≤4) {f:Nat} (hf:f<s.length) (T:List (List Int)) (row:List Int) (k:Nat) (hrow:row.length≤64) (hk:k<(a*b) ^ ar s f) {P:Int×List (List Int)×Bool→Prop}
  (next:Wp (fun q=>fQ14.l1 q s f (row++[prodV a b Ta Tb s f k]) (((k+1:Nat):Nat):Int) a Ta b Tb 0 ((a*b:Nat):Int) T) P):Wp (fun q=>fQ14.l2 q s f row k 0 0 k 1 1 0 a Ta b Tb 0 ((a*b:Nat):Int) T) P:=by
 have a1:=ha.2.1.1
 have b1:=hb.2.1.1
 have p1:0<a*b:=Nat.mul_pos a1 b1
 have a4:=ha.2.1.2
 have b4:=hb.2.1.2
 have hr:=sig_ar3 ha.1 hf
 have sa:=sig_ar ha.1 f hf
 have e1:(rd_I_Sym s (f:Int)).f1=((ar s f:Nat):Int):=(Int.toNat_of_nonneg sa.1).symm
 have kb:=pow64 hab hr
 have f0:0≤(f:Int):=Int.natCast_nonneg _
 have f1:(f:Int)<(s.length:Int):=by omega
 have key:∀d i:Nat,i+d=ar s f→∀(l:List Nat) (n:Nat),l.length=i→(∀x∈l,x<a*b)→n≤k→l++dgs (a*b) d n=dgs (a*b) (ar s f) k→Wp (fun q=>fQ14.l2 q s f row k ((plc a (l.map fun d=>d % a):Nat):Int) ((plc b (l.map fun d=>d / a):Nat):Int) n ((a ^ i:Nat):Int) ((b ^ i:Nat):Int) i a Ta b Tb 0 ((a*b:Nat):Int) T) P:=by
  intro d
  induction d with
  | zero=>
   intro i hi l n hl hd hn he
   rw [dgs,List.append_nil] at he
   refine Wp.step (fun k=>by rw [fQ14.l2]) ?_
   have la:(l.map fun d=>d % a).length=ar s f:=by rw [List.length_map];omega
   have lb:(l.map fun d=>d / a).length=ar s f:=by rw [List.length_map];omega
   have r1:=wrow_at ha hf la (mods_lt a1 l)
   have r2:=wrow_at hb hf lb (divs_lt l hd)
   have pr:=prodV_rng ha hb hf l (by omega) hd
   have t1:=ha.2.2.1
   have t2:=hb.2.2.1
   have hv:wrap64 (rd (rd_Ls_i64 Ta (f:Int)) ((plc a (l.map fun d=>d % a):Nat):Int)+wrap64 ((a:Int)*rd (rd_Ls_i64 Tb (f:Int)) ((plc b (l.map fun d=>d / a):Nat):Int)))=prodV a b Ta Tb s f k:=by
    rw [prodV,←he]
    rw [prodVal] at pr⊢
    have m0:0≤(a:Int)*rd (rd_Ls_i64 Tb (f:Int)) ((plc b (l.map fun d=>d / a):Nat):Int):=Int.mul_nonneg (by omega) r2.2.1
    rw [wrap_id (x:=(a:Int)*_) (by omega) (by omega),wrap_id (by omega) (by omega)]
   have hw:wrap64 ((k:Int)+1)=((k+1:Nat):Int):=by
    have:(k:Int)+1=((k+1:Nat):Int):=by omega
    rw [this];exact wrN (by omega)
   rw [e1]
   simp only [hv,hw]
   have i0:¬(i:Int)<((ar s f:Nat):Int):=inlt (Nat.le_of_eq hi.symm)
   have t1':(f:Int)<(Ta.length:Int):=ilt (t1▸hf)
   have t2':(f:Int)<(Tb.length:Int):=ilt (t2▸hf)
   have r1':=r1.1
   have r2':=r2.1
   exact Wp.itet f0 (Wp.itet f1 (Wp.itef i0 (Wp.itet t1' (Wp.itet (Int.natCast_nonneg _) (Wp.itet (ilt r1') (Wp.itet t2' (Wp.itet (Int.natCast_nonneg _) (Wp.itet (ilt r2') (Wp.itet (Nat.le_trans (Nat.add_le_add_right hrow 1) (by decide)) next)))))))))
  | succ d ih=>
   intro i hi l n hl hd hn he
   rw [dgs] at he
   have hi2:i<ar s f:=by omega
   have hi3:i+1+d=ar s f:=by omega
   have hi4:i+1≤64:=by omega
   refine Wp.step (fun k=>by rw [fQ14.l2]) ?_
   rw [e1]
   have dl:n % (a*b)<a*b:=Nat.mod_lt _ p1
   have hd':∀x∈l++[n % (a*b)],x<a*b:=by
    intro x hx
    rcases List.mem_append.1 hx with hx | hx
    ·exact hd x hx
    ·simp at hx;omega
   have pa:=plc_lt a1 ((l++[n % (a*b)]).map fun d=>d % a) (mods_lt a1 _)
   have pb:=plc_lt b1 ((l++[n % (a*b)]).map fun d=>d / a) (divs_lt _ hd')
   have ha64:a ^ (i+1)≤64:=pow64 a4 (by omega)
   have hb64:b ^ (i+1)≤64:=pow64 b4 (by omega)
   have sa1:=plc_snoc a (l.map fun d=>d % a) (n % (a*b) % a)
   have sb1:=plc_snoc b (l.map fun d=>d / a) (n % (a*b) / a)
   rw [List.length_map,hl] at sa1 sb1
   have ma:(l++[n % (a*b)]).map (fun d=>d % a)=l.map (fun d=>d % a)++[n % (a*b) % a]:=by rw [List.map_append];rfl
   have mb:(l++[n % (a*b)]).map (fun d=>d / a)=l.map (fun d=>d / a)++[n % (a*b) / a]:=by rw [List.map_append];rfl
   rw [ma,List.length_append,List.length_map,hl,List.length_singleton] at pa
   rw [mb,List.length_append,List.length_map,hl,List.length_singleton] at pb
   have nd:n / (a*b)≤n:=Nat.div_le_self _ _
   have x0:Int.tmod (Int.tmod (n:Int) ((a*b:Nat):Int)) (a:Int)=((n % (a*b) % a:Nat):Int):=by rw [tmod_nat,tmod_nat]
   have y0:Int.tdiv (Int.tmod (n:Int) ((a*b:Nat):Int)) (a:Int)=((n % (a*b) / a:Nat):Int):=by rw [tmod_nat,tdiv_nat]
   have nq:Int.tdiv (n:Int) ((a*b:Nat):Int)=((n / (a*b):Nat):Int):=tdiv_nat ..
   have sA:plc a (l.map fun d=>d % a)+a ^ i*(n % (a*b) % a)≤64:=by rw [←sa1];exact Nat.le_of_lt (Nat.lt_of_lt_of_le pa ha64)
   have sB:plc b (l.map fun d=>d / a)+b ^ i*(n % (a*b) / a)≤64:=by rw [←sb1];exact Nat.le_of_lt (Nat.lt_of_lt_of_le pb hb64)
   have w1:=wrM (Nat.le_trans (Nat.le_add_left _ _) sA)
   have w2:wrap64 ((n % (a*b) / a:Nat):Int)=((n % (a*b) / a:Nat):Int):=wrN (Nat.le_trans (Nat.div_le_self _ _) (Nat.le_trans (Nat.le_of_lt dl) (Nat.le_trans hab (by decide))))
   have w3:=wrM (Nat.le_trans (Nat.le_add_left _ _) sB)
   have w4:=wrS sA
   have w5:=wrS sB
   have w6:wrap64 ((n / (a*b):Nat):Int)=((n / (a*b):Nat):Int):=wrN (Nat.le_trans nd (Nat.le_trans hn (Nat.le_trans (Nat.le_of_lt hk) (Nat.le_trans kb (by decide)))))
   have w7:=wrM (m:=a ^ i) (n:=a) (by rw [←Nat.pow_succ];exact ha64)
   have w8:=wrM (m:=b ^ i) (n:=b) (by rw [←Nat.pow_succ];exact hb64)
   have w9:wrap64 ((i:Int)+1)=((i+1:Nat):Int):=wrS (m:=i) (n:=1) (hi4)
   rw [←sa1,←ma] at w4
   rw [←sb1,←mb] at w5
   rw [←Nat.pow_succ] at w7 w8
   simp only [x0,y0,nq,w1,w2,w3,w4,w5,w6,w7,w8,w9]
   have ab0:¬((a*b:Nat):Int)=0:=ine0 p1
   have a0:¬(a:Int)=0:=ine0 a1
   have i0:(i:Int)<((ar s f:Nat):Int):=ilt hi2
   refine Wp.itet f0 (Wp.itet f1 (Wp.itet i0 (Wp.itef ab0 (Wp.itef a0 ?_))))
   exact ih (i+1) hi3 (l++[n % (a*b)]) _ (by rw [List.length_append,hl];rfl) hd' (Nat.le_trans nd hn) (by rw [List.append_assoc];exact he)
 exact key (ar s f) 0 (by omega) [] k rfl (fun x hx=>nomatch hx) (Nat.le_refl _) rfl
theorem spec_Product_ok (s:List I_Sym) (hs:Names s) {a b:Nat} {Ta Tb:List (List Int)} (rA:Rows Ta) (rB:Rows Tb) (ha:WorldOk s a Ta) (hb:WorldOk s b Tb):Ev (fun k=>fQ14.f k s a Ta b Tb) (if a*b≤4 then (((a*b:Nat):Int),tab s (a*b) (prodV a b Ta Tb s),true) else (0,[],false)):=by
 unfold fQ14.f
 simp only [mul44 ha.2.1.2 hb.2.1.2]
 refine Wp.ev (Wp.bindE (spec_WorldOk_ev s a Ta hs rA) (Wp.itetB ⟨by omega,by rw [Int.toNat_natCast];exact ha⟩ (Wp.bindE (spec_WorldOk_ev s b Tb hs rB) (Wp.itetB ⟨by omega,by rw [Int.toNat_natCast];exact hb⟩ ?_))))
 by_cases h:a*b≤4
 ·rw [if_pos h]
  have p1:0<a*b:=Nat.mul_pos ha.2.1.1 hb.2.1.1
  have hsl:=hs.1
  refine Wp.itef (by omega) ?_
  refine Wp.cnt1 s.length hsl (fun q i T=>fQ14.l0 q s i a Ta b Tb 0 ((a*b:Nat):Int) T) (fun i T=>T=(List.range i).map fun f=>(List.range ((a*b) ^ ar s f)).map (prodV a b Ta Tb s f)) ?_ ?_ ([]:List (List Int)) rfl
  ·rintro i T hi hw rfl ih
   refine Wp.step (fun k=>by rw [fQ14.l0]) ?_
   refine Wp.itet (by omega) ?_
   have hr:=sig_ar3 ha.1 hi
   have sa:=sig_ar ha.1 i hi
   have e1:(rd_I_Sym s (i:Int)).f1=((ar s i:Nat):Int):=(Int.toNat_of_nonneg sa.1).symm
   have kb:=pow64 h hr
   refine Wp.cnt1 ((a*b) ^ ar s i) (by omega) (fun q k row=>fQ14.l1 q s i row k a Ta b Tb 0 ((a*b:Nat):Int) ((List.range i).map fun f=>(List.range ((a*b) ^ ar s f)).map (prodV a b Ta Tb s f))) (fun k row=>row=(List.range k).map (prodV a b Ta Tb s i)) ?_ ?_ ([]:List Int) rfl
   ·rintro k row hk hwk rfl ih2
    refine Wp.step (fun k=>by rw [fQ14.l1]) ?_
    rw [e1]
    refine Wp.itet (by omega) (Wp.itet (by omega) (Wp.bindE (spec_l24Power_ev (a*b) ⟨p1,h⟩ _ (by omega)) (Wp.itet (by omega) ?_)))
    refine spec_Product_row s ha hb h hi _ _ k (by simp;omega) hk ?_
    exact ih2 _ (range_snoc _ _)
   ·rintro row rfl
    refine Wp.step (fun k=>by rw [fQ14.l1]) ?_
    rw [e1]
    simp only [hw.e]
    refine Wp.itet (by omega) (Wp.itet (by omega) (Wp.bindE (spec_l24Power_ev (a*b) ⟨p1,h⟩ _ (by omega)) (Wp.itef (by omega) (Wp.itet (by simp;omega) ?_))))
    exact ih _ (range_snoc (fun f=>(List.range ((a*b) ^ ar s f)).map (prodV a b Ta Tb s f)) i)
  ·rintro T rfl
   refine Wp.step (fun k=>by rw [fQ14.l0]) ?_
   exact Wp.itef (by omega) (Wp.ret rfl)
 ·rw [if_neg h]
  exact Wp.itet (by omega) (Wp.ret rfl)
theorem tab_rows {s:List I_Sym} (h:SigOk s) {z:Nat} (hz:z≤4) (val:Nat→Nat→Int):Rows (tab s z val):=by
 intro x hx
 obtain ⟨f,hf,rfl⟩:=List.mem_map.1 hx
 have:=pow64 hz (sig_ar3 h (List.mem_range.1 hf))
 rw [List.length_map,List.length_range]
 omega
theorem rd_get (l:List Int) {i:Nat} (h:i<l.length):rd l (i:Int)=l[i]:=by
 show l.getD (i:Int).toNat 0=_
 rw [Int.toNat_natCast,List.getD_eq_getElem?_getD,List.getElem?_eq_getElem h]
 rfl
theorem mem_occL {l:List I_Term} {x:I_Term} {v:Int} (hx:x∈l) (hv:v∈occT x):v∈occL l:=by
 induction l with
 | nil=>cases hx
 | cons a l ih=>
  rw [occL]
  rcases List.mem_cons.1 hx with rfl | h
  ·exact List.mem_append_left _ hv
  ·exact List.mem_append_right _ (ih h)
theorem varV_agree {z:Int} {env env':List Int} {v:Int} (hl:env.length=env'.length) (h:rd env v=rd env' v):varV z env v=varV z env' v:=by unfold varV;rw [hl,h]
theorem mean_agree {s:List I_Sym} {z:Int} {T:List (List Int)} {env env':List Int} (hl:env.length=env'.length) (t:I_Term):(∀v∈occT t,rd env v=rd env' v)→mean s z T env t=mean s z T env' t:=by
 induction t using tInd with
 | h t ih=>
 intro h
 rw [occT_eq] at h
 have hk:meanL s z T env t.f2=meanL s z T env' t.f2:=by
  rw [meanL_map,meanL_map]
  exact List.map_congr_left fun x hx=>ih x hx (fun v hv=>h v (List.mem_append_right _ (mem_occL hx hv)))
 rw [mean_eq,mean_eq,nodeV,nodeV,hk]
 split
 ·rename_i h1
  exact varV_agree hl (h _ (List.mem_append_left _ (by rw [if_pos h1];exact List.mem_singleton.2 rfl)))
 ·rfl
theorem rdLitN_mem {l:List I_Lit} {i:Nat} (h:i<l.length):rd_I_Lit l i∈l:=rdOf_mem (z:=zI_Lit) (by omega) (by omega)
theorem some_agree {s:List I_Sym} {z:Int} {T:List (List Int)} {c:List I_Lit} {env env':List Int} (hl:env.length=env'.length) (h:∀v∈varsC c,rd env v=rd env' v):Some1 s z T c env↔Some1 s z T c env':=by
 have e:∀i,i<c.length→(LitTrue s z T env (rd_I_Lit c i)↔LitTrue s z T env' (rd_I_Lit c i)):=by
  intro i hi
  have hm:=rdLitN_mem hi
  rw [LitTrue,LitTrue,mean_agree hl _ (fun v hv=>h v (mem_varsC.2 ⟨_,hm,.inl hv⟩)),mean_agree hl _ (fun v hv=>h v (mem_varsC.2 ⟨_,hm,.inr hv⟩))]
 exact ⟨fun ⟨i,hi,k⟩=>⟨i,hi,(e i hi).1 k⟩,fun ⟨i,hi,k⟩=>⟨i,hi,(e i hi).2 k⟩⟩
theorem envN_inR {z:Nat} (hz:1≤z):∀(l:List Int) (n:Nat) (e:List Int),InR z e→InR z (envN z l n e):=by
 intro l
 induction l with
 | nil=>intro n e h;exact h
 | cons v r ih=>
  intro n e h
  rw [envN]
  refine ih _ _ fun x hx=>?_
  rcases List.mem_or_eq_of_mem_set hx with h1 | h1
  ·exact h x h1
  ·have:=Nat.mod_lt n hz
   rw [h1];exact ⟨Int.natCast_nonneg _,by omega⟩
theorem envN_all {z:Nat} (hz:1≤z) {env:List Int} (he:InR z env):∀(l:List Int),Inc l→(∀v∈l,0≤v∧v<(env.length:Int))→∀e:List Int,e.length=env.length→∃n,n<z ^ l.length∧∀v∈l,rd (envN z l n e) v=rd env v:=by
 intro l
 induction l with
 | nil=>intro _ _ e _;exact ⟨0,by simp,fun v hv=>nomatch hv⟩
 | cons v r ih=>
  intro hi hv e hl
  have hi:=List.pairwise_cons.1 hi
  have hv0:=hv v List.mem_cons_self
  have hr:=he _ (rd_mem hv0.1 hv0.2)
  obtain ⟨d,hd⟩:∃d:Nat,rd env v=d:=⟨_,(Int.toNat_of_nonneg hr.1).symm⟩
  obtain ⟨n,hn,h⟩:=ih hi.2 (fun w hw=>hv w (List.mem_cons_of_mem _ hw)) (e.set v.toNat (d:Int)) (by rw [List.length_set];exact hl)
  have dz:d<z:=by omega
  have e1:(d+z*n) % z=d:=by rw [Nat.add_mul_mod_self_left,Nat.mod_eq_of_lt dz]
  have e2:(d+z*n) / z=n:=by rw [Nat.add_mul_div_left _ _ hz,Nat.div_eq_of_lt dz,Nat.zero_add]
  refine ⟨d+z*n,?_,fun w hw=>?_⟩
  ·rw [List.length_cons,Nat.pow_succ,Nat.mul_comm (z ^ r.length)]
   have:z*(n+1)≤z*z ^ r.length:=Nat.mul_le_mul_left _ hn
   rw [Nat.mul_add] at this
   omega
  ·rw [envN,e1,e2]
   rcases List.mem_cons.1 hw with rfl | hw
   ·rw [envN_rd z hv0.1 r (fun u hu=>⟨(hv u (List.mem_cons_of_mem _ hu)).1,by have:=hi.1 u hu;omega⟩),rd_set_eq _ (by omega),hd]
   ·exact h w hw
def HoldsA (m:Nat) (s:List I_Sym) (z:Nat) (T:List (List Int)) (c:List I_Lit):Prop:=WorldOk s z T∧ClauseOk s c∧(varsC c).length≤m∧∀env,env.length=100→InR z env→Some1 s z T c env
theorem holds_all {m:Nat} {s:List I_Sym} {z:Nat} {T:List (List Int)} {c:List I_Lit}:HoldsW m s z T c↔HoldsA m s z T c:=by
 constructor
 ·rintro ⟨hw,hc,hm,h⟩
  refine ⟨hw,hc,hm,fun env hl he=>?_⟩
  have hv:=hc.vars
  obtain ⟨n,hn,ha⟩:=envN_all hw.2.1.1 he (varsC c) hv.1 (fun v h=>by rw [hl];exact hv.2 v h) (List.replicate 100 0) (by rw [List.length_replicate,hl])
  exact (some_agree (by rw [envN_len,List.length_replicate,hl]) ha).1 (h n hn)
 ·rintro ⟨hw,hc,hm,h⟩
  refine ⟨hw,hc,hm,fun n _=>h _ (by rw [envN_len,List.length_replicate]) (envN_inR hw.2.1.1 _ _ _ fun x hx=>?_)⟩
  rw [List.eq_of_mem_replicate hx]
  have:=hw.2.1.1
  exact ⟨Int.le_refl _,by omega⟩
theorem varV_at {z:Nat} {env:List Int} (he:InR z env) {v:Int} (h0:0≤v) (h1:v<(env.length:Int)):varV z env v=rd env v:=by
 have hr:=he _ (rd_mem h0 h1)
 unfold varV
 rw [if_neg (by omega)]
 obtain ⟨d,hd⟩:∃d:Nat,rd env v=d:=⟨_,(Int.toNat_of_nonneg hr.1).symm⟩
 rw [hd] at hr⊢
 have dz:d<z:=by omega
 rw [tmod_nat,Nat.mod_eq_of_lt dz,←Int.natCast_add,tmod_nat,Nat.add_mod_right,Nat.mod_eq_of_lt dz]
structure Hom (s:List I_Sym) (z:Nat) (T:List (List Int)) (z':Nat) (T':List (List Int)) (φ:Int→Int):Prop where
 w:WorldOk s z T
 w':WorldOk s z' T'
 rng:∀x,0≤x→x<(z:Int)→0≤φ x∧φ x<(z':Int)
 row:∀f:Int,0≤f→f<(s.length:Int)→∀vs,InR z vs→vs.length=(rd_I_Sym s f).f1.toNat→rd (rd_Ls_i64 T' f) (placeOf z' (vs.map φ))=φ (rd (rd_Ls_i64 T f) (placeOf z vs))
theorem Hom.op {s:List I_Sym} {z:Nat} {T:List (List Int)} {z':Nat} {T':List (List Int)} {φ:Int→Int} (h:Hom s z T z' T' φ) {f:Int} (hb:Blind s f) {a b:Int} (ha:0≤a∧a<(z:Int)) (hb':0≤b∧b<(z:Int)):opw z' (rd_Ls_i64 T' f) (φ a) (φ b)=φ (opw z (rd_Ls_i64 T f) a b):=by
 obtain ⟨h0,h1,h2⟩:=hb
 have h2':(rd_I_Sym s f).f1=2:=by
  obtain ⟨n,rfl⟩:∃n:Nat,f=n:=⟨f.toNat,by omega⟩
  exact (h.w.1.1 n (by omega)).2.2.2 h2
 have:=h.row f h0 h1 [a,b] (by intro x hx;simp at hx;rcases hx with rfl | rfl <;> assumption) (by rw [h2'];rfl)
 simpa [placeOf,opw] using this
theorem Hom.fold {s:List I_Sym} {z:Nat} {T:List (List Int)} {z':Nat} {T':List (List Int)} {φ:Int→Int} (h:Hom s z T z' T' φ) {f:Int} (hb:Blind s f) {vs:List Int} (hv:InR z vs) (hn:vs≠[]):foldV z' (rd_Ls_i64 T' f) (vs.map φ)=φ (foldV z (rd_Ls_i64 T f) vs):=by
 have sq:=row_sq h.w hb
 cases vs with
 | nil=>exact absurd rfl hn
 | cons a r=>
  have key:∀(r:List Int) (a:Int),(0≤a∧a<(z:Int))→InR z r→(r.map φ).foldl (fun x y=>opw z' (rd_Ls_i64 T' f) x y) (φ a)=φ (r.foldl (fun x y=>opw z (rd_Ls_i64 T f) x y) a):=by
   intro r
   induction r with
   | nil=>intro a _ _;rfl
   | cons b r ih=>
    intro a ha hr
    have hb2:=hr b (by simp)
    rw [List.map_cons,List.foldl_cons,List.foldl_cons,h.op hb ha hb2]
    exact ih _ (opw_rng sq ha hb2) (fun x hx=>hr x (by simp [hx]))
  exact key r a (hv a (by simp)) (fun x hx=>hv x (by simp [hx]))
theorem Hom.means {s:List I_Sym} {z:Nat} {T:List (List Int)} {z':Nat} {T':List (List Int)} {φ:Int→Int} (h:Hom s z T z' T' φ) {env env':List Int} (he:∀v:Int,0≤v→v≤99→varV z' env' v=φ (varV z env v)) (t:I_Term):FormOk s t→mean s z' T' env' t=φ (mean s z T env t):=by
 induction t using tInd with
 | h t ih=>
 intro hf
 have hv:InR z (meanL s z T env t.f2):=by
  rw [meanL_map]
  intro x hx
  obtain ⟨y,hy,rfl⟩:=List.mem_map.1 hx
  exact mean_rng h.w env y (hf.kid y hy)
 have hk:meanL s z' T' env' t.f2=(meanL s z T env t.f2).map φ:=by
  rw [meanL_map,meanL_map,List.map_map]
  exact List.map_congr_left fun x hx=>ih x hx (hf.kid x hx)
 have hlen:(meanL s z T env t.f2).length=t.f2.length:=by rw [meanL_map,List.length_map]
 rw [mean_eq,mean_eq,nodeV,nodeV,hk]
 rcases hf.row with r | r
 ·rw [if_pos r.1,if_pos r.1]
  exact he _ r.2.1.1 r.2.1.2
 ·obtain ⟨hne,⟨a,b⟩,_,c,d,_⟩:=r
  rw [if_neg hne,if_neg hne]
  by_cases hb:B (Blind s t.f0)=true
  ·rw [if_pos hb,if_pos hb]
   have hb:=B_iff.1 hb
   exact h.fold hb hv (fun e=>by have:=d hb.2.2;rw [e] at hlen;simp at hlen;omega)
  ·rw [if_neg hb,if_neg hb]
   have h3:(rd_I_Sym s t.f0).f2=false:=by
    cases h:(rd_I_Sym s t.f0).f2
    ·rfl
    ·exact absurd (B_iff.2 ⟨a,b,h⟩) hb
   exact h.row t.f0 a b _ hv (by have:=c h3;omega)
theorem Fin_.mono {α:Type} {P Q:α→Prop} (h:Fin_ P) (k:∀a,Q a→P a):Fin_ Q:=by
 obtain ⟨L,hL⟩:=h
 exact ⟨L,fun y hy=>hL y (k y hy)⟩
theorem Fin_.prod {α β:Type} {P:α→Prop} {Q:β→Prop} (h:Fin_ P) (k:Fin_ Q):Fin_ (fun y:α×β=>P y.1∧Q y.2):=by
 obtain ⟨L,hL⟩:=h
 obtain ⟨M,hM⟩:=k
 exact ⟨L.flatMap fun a=>M.map fun b=>(a,b),fun y hy=>List.mem_flatMap.2 ⟨y.1,hL _ hy.1,List.mem_map.2 ⟨y.2,hM _ hy.2,rfl⟩⟩⟩
theorem Fin_.one {α:Type} (a:α):Fin_ (fun y=>y=a):=⟨[a],fun y hy=>by rw [hy];exact List.mem_singleton.2 rfl⟩
theorem Fin_.list {α:Type} {P:α→Prop} (h:Fin_ P):∀n:Nat,Fin_ (fun l:List α=>l.length≤n∧∀x∈l,P x):=by
 obtain ⟨L,hL⟩:=h
 intro n
 induction n with
 | zero=>exact ⟨[[]],fun l hl=>by rw [List.length_eq_zero_iff.1 (Nat.le_zero.1 hl.1)];exact List.mem_singleton.2 rfl⟩
 | succ n ih=>
  obtain ⟨M,hM⟩:=ih
  refine ⟨[]::L.flatMap fun a=>M.map fun b=>a::b,fun l hl=>?_⟩
  cases l with
  | nil=>exact List.mem_cons_self
  | cons a l=>exact List.mem_cons_of_mem _ (List.mem_flatMap.2 ⟨a,hL _ (hl.2 a List.mem_cons_self),List.mem_map.2 ⟨l,hM _ ⟨Nat.le_of_succ_le_succ hl.1,fun x hx=>hl.2 x (List.mem_cons_of_mem _ hx)⟩,rfl⟩⟩)
def Sm (x:Int):Prop:= -100≤x∧x≤100
theorem fin_Sm:Fin_ Sm:=⟨(List.range 201).map fun n:Nat=>(n:Int) - 100,fun x hx=>List.mem_map.2 ⟨(x+100).toNat,List.mem_range.2 (by have:=hx.2;omega),by have:=hx.1;omega⟩⟩
def Tb (T:List (List Int)):Prop:=T.length≤7∧∀x∈T,x.length≤64∧∀y∈x,Sm y
theorem fin_Tb:Fin_ Tb:=Fin_.list (Fin_.list fin_Sm 64) 7
theorem Tb.rows {T:List (List Int)} (h:Tb T):Rows T:=fun x hx=>by have:=(h.2 x hx).1;omega
theorem Dm.step {Y:Type} {P:Y→Prop} {G G':Nat→(R:Type)→(Y→Option R)→Option R} (h:∀k R K,G (k+1) R K=G' k R K) (d:Dm G' P):Dm G P:=by
 obtain ⟨hP,M,hM⟩:=d
 refine ⟨hP,M+1,fun k hk R K r hK=>?_⟩
 obtain ⟨k,rfl⟩:∃j,k=j+1:=⟨k - 1,by omega⟩
 rw [h]
 exact hM k (by omega) R K r hK
theorem chS_int {W:Dyn TT.ST→Prop} {k:IntKind} {n m:Int} (h:ChS TT W (.int k n) (.int k m)):m=n:=by
 rcases h with h | ⟨e,xs,ys,h,_⟩
 ·injection h with _ h;exact h.symm
 ·cases h
theorem chD_int {v n m:Int} (h:ChD TT (fun d=>d=.int .i64 v) (.int .i64 n) (.int .i64 m)):m=n∨m=v:=by
 cases h with
 | same=>exact .inl rfl
 | put _ _ _ hw=>injection hw with _ hw;exact .inr hw
theorem chD_u8 {v n m:Int} (h:ChD TT (fun d=>d=.int .i64 v) (.int .u8 n) (.int .u8 m)):m=n:=by
 cases h with
 | same=>rfl
 | put _ _ _ hw=>injection hw with hw _;cases hw
theorem chD_row {v:Int} {x y:List Int} (h:ChD TT (fun d=>d=.int .i64 v) (.lst (.int .i64) x) (.lst (.int .i64) y)):y.length=x.length∧∀(j:Nat) (a b:Int),x[j]?=some a→y[j]?=some b→b=a∨b=v:=by
 cases h with
 | same=>exact ⟨rfl,fun j a b ha hb=>by rw [ha] at hb;exact .inl (Option.some.inj hb).symm⟩
 | put _ _ _ hw=>cases hw
 | lst _ _ _ hl h=>exact ⟨hl,fun j a b ha hb=>chD_int (h j a b ha hb 0 _ _ rfl rfl)⟩
theorem chS_u8 {v:Int} {x y:List Int} (h:ChS TT (fun d=>d=.int .i64 v) (.lst (.int .u8) x) (.lst (.int .u8) y)):y=x:=by
 rcases h with h | ⟨e,xs,ys,h1,h2,hl,h⟩
 ·injection h with _ h;exact h.symm
 ·cases h1
  cases h2
  refine List.ext_getElem hl (fun i a b=>?_)
  exact chD_u8 (h i _ _ (List.getElem?_eq_getElem b) (List.getElem?_eq_getElem a) 0 _ _ rfl rfl)
theorem chS_rows {v:Int} {x y:List (List Int)} (h:ChS TT (fun d=>d=.int .i64 v) (.lst (.lst (.int .i64)) x) (.lst (.lst (.int .i64)) y)):y.length=x.length∧∀(i:Nat) (a b:List Int),x[i]?=some a→y[i]?=some b→b.length=a.length∧∀(j:Nat) (p q:Int),a[j]?=some p→b[j]?=some q→q=p∨q=v:=by
 rcases h with h | ⟨e,xs,ys,h1,h2,hl,h⟩
 ·injection h with _ h
  obtain rfl:=h
  exact ⟨rfl,fun i a b ha hb=>by
   rw [ha] at hb
   obtain rfl:=Option.some.inj hb
   exact ⟨rfl,fun j p q hp hq=>by rw [hp] at hq;exact .inl (Option.some.inj hq).symm⟩⟩
 ·cases h1
  cases h2
  exact ⟨hl,fun i a b ha hb=>chD_row (h i a b ha hb 0 _ _ rfl rfl)⟩
theorem ch_tb {v:Int} (hv:Sm v) {x y:List (List Int)} (h:ChS TT (fun d=>d=.int .i64 v) (.lst (.lst (.int .i64)) x) (.lst (.lst (.int .i64)) y)) (hx:Tb x):Tb y∧y.length=x.length∧∀i:Nat,(rd_Ls_i64 y i).length=(rd_Ls_i64 x i).length:=by
 obtain ⟨h1,h2⟩:=chS_rows h
 refine ⟨⟨by rw [h1];exact hx.1,fun r hr=>?_⟩,h1,fun i=>?_⟩
 ·obtain ⟨i,hi,rfl⟩:=List.getElem_of_mem hr
  have a:=h2 i _ _ (List.getElem?_eq_getElem (by omega)) (List.getElem?_eq_getElem hi)
  have b:=hx.2 _ (List.getElem_mem (l:=x) (n:=i) (by omega))
  refine ⟨by rw [a.1];exact b.1,fun q hq=>?_⟩
  obtain ⟨j,hj,rfl⟩:=List.getElem_of_mem hq
  have hj':j<x[i].length:=by have:=a.1;omega
  rcases a.2 j _ _ (List.getElem?_eq_getElem hj') (List.getElem?_eq_getElem hj) with c | c
  ·rw [c];exact b.2 _ (List.getElem_mem hj')
  ·rw [c];exact hv
 ·show (y.getD (i:Int).toNat []).length=(x.getD (i:Int).toNat []).length
  rw [Int.toNat_natCast,List.getD_eq_getElem?_getD,List.getD_eq_getElem?_getD]
  by_cases hi:i<x.length
  ·rw [List.getElem?_eq_getElem hi,List.getElem?_eq_getElem (by omega)]
   exact (h2 i _ _ (List.getElem?_eq_getElem hi) (List.getElem?_eq_getElem (by omega))).1
  ·rw [List.getElem?_eq_none (by omega),List.getElem?_eq_none (by omega)]
theorem spec_l1Max_wp (a b:Int):Wp (fun _=>fQ89.f a b) (fun r=>(r=a∨r=b)∧a≤r∧b≤r):=by
 unfold fQ89.f
 refine Wp.ite (fun h=>Wp.ret ?_) (fun h=>Wp.ret ?_) <;> omega
theorem spec_l1Min_wp (a b:Int):Wp (fun _=>fQ93.f a b) (fun r=>(r=a∨r=b)∧r≤a∧r≤b):=by
 unfold fQ93.f
 refine Wp.ite (fun h=>Wp.ret ?_) (fun h=>Wp.ret ?_) <;> omega
theorem sm_of {t:Int} {p q:Nat} (hp:p≤100) (hq:q≤100) (h:t=p∨t=q):Sm t:=by
 rcases h with rfl | rfl
 ·exact ⟨by omega,by omega⟩
 ·exact ⟨by omega,by omega⟩
theorem sm_lt {t:Int} (h:0≤t) (k:t≤100):Sm t:=⟨by omega,by omega⟩
theorem wrS2 {m n:Nat} (h:m+n≤200):wrap64 ((m:Int)+(n:Int))=((m+n:Nat):Int):=by rw [←Int.natCast_add];exact wrN (by omega)
def Row1 (x:List Int):Prop:=1≤x.length∧x.length≤64∧∀y∈x,Sm y
theorem snoc_all {α:Type} {P:α→Prop} {l:List α} {a:α} (h:∀x∈l,P x) (ha:P a):∀x∈l++[a],P x:=by
 intro x hx
 rcases List.mem_append.1 hx with hx | hx
 ·exact h x hx
 ·rw [List.mem_singleton.1 hx];exact ha
theorem sig2_ar (i:Nat) (hi:i<sig2.length):0≤(rd_I_Sym sig2 i).f1∧(rd_I_Sym sig2 i).f1≤3:=by
 have h:=sig2_ars (rd_I_Sym sig2 i) (by
  show sig2.getD (i:Int).toNat _∈sig2
  rw [Int.toNat_natCast,List.getD_eq_getElem?_getD,List.getElem?_eq_getElem hi]
  exact List.getElem_mem hi)
 exact ⟨h.1,h.2.1⟩
theorem spec_l24DrawFor_v2_wp (z:Nat) (hz:1≤z∧z≤4) {b:List Int} {i:Int} (h:Int) (hc:Cur b i):Wp (fun k=>fQ6.f k sig2 z b i h) (fun r=>r.1=z∧r.2.1.length=7∧(∀x∈r.2.1,Row1 x)∧Cur r.2.2.1 r.2.2.2.1):=by
 have sl:sig2.length=7:=rfl
 unfold fQ6.f
 refine Wp.cnt4 7 (by omega) (fun q j T b i h=>fQ6.l0 q sig2 z j 0 z T b i h) (fun j T b i h=>T.length=j∧(∀x∈T,Row1 x)∧Cur b i) ?_ ?_ ([]:List (List Int)) b i h ⟨rfl,fun x hx=>(nomatch hx),hc⟩
 ·rintro j T b i h hj hw ⟨hl,hT,hc⟩ ih
  refine Wp.step (fun k=>by rw [fQ6.l0]) ?_
  have sa:=sig2_ar j (by omega)
  obtain ⟨a,ha⟩:∃a:Nat,(rd_I_Sym sig2 (j:Int)).f1=a:=⟨_,(Int.toNat_of_nonneg sa.1).symm⟩
  have a3:a≤3:=by omega
  have p64:=pow64 hz.2 a3
  have p1:0<z ^ a:=Nat.pow_pos hz.1
  refine Wp.itet (by rw [sl];omega) (Wp.bind (spec_l1Below_v2_wp 4 h hc) fun r hr=>?_)
  refine Wp.cnt4 (z ^ a) (by omega) (fun q m row b i h=>fQ6.l1 q sig2 z j row r.1 m 0 z T b i h) (fun m row b i _=>row.length=m∧(∀y∈row,Sm y)∧Cur b i) ?_ ?_ ([]:List Int) _ _ _ ⟨rfl,fun x hx=>(nomatch hx),hr.2⟩
  ·rintro m row b i h hm hwm ⟨hml,hrow,hc⟩ ih2
   refine Wp.step (fun k=>by rw [fQ6.l1]) ?_
   have room:row.length+1≤1000000:=by omega
   have put:∀{C:Nat} (v:Int) (b':List Int) (i' h':Int),row.length+1≤C→Sm v→Cur b' i'→Wp (fun q=>if row.length+1≤C then fQ6.l1 q sig2 z j (row++[v]) r.1 (wrap64 ((m:Int)+1)) 0 z T b' i' h' else none) _:=fun v b' i' h' hC hv hc'=>Wp.itet hC (by rw [hwm.e];exact ih2 _ _ _ _ ⟨by rw [List.length_append,hml];rfl,snoc_all hrow hv,hc'⟩)
   have md:Int.tmod (m:Int) (z:Int)=((m % z:Nat):Int):=tmod_nat ..
   have dv:Int.tdiv (m:Int) (z:Int)=((m / z:Nat):Int):=tdiv_nat ..
   have ml:m % z<z:=Nat.mod_lt _ hz.1
   have dl:m / z≤m:=Nat.div_le_self _ _
   have m64:m≤64:=Nat.le_trans (Nat.le_of_lt hm) p64
   have dw:wrap64 ((m / z:Nat):Int)=((m / z:Nat):Int):=wrN (Nat.le_trans dl (Nat.le_trans m64 (by decide)))
   have z4:z≤4:=hz.2
   have sw:=wrS2 (Nat.le_trans (Nat.add_le_add (Nat.le_of_lt ml) dl) (Nat.le_trans (Nat.add_le_add z4 m64) (by decide)))
   have s1:m % z≤100:=Nat.le_trans (Nat.le_of_lt ml) (Nat.le_trans z4 (by decide))
   have s2:m / z≤100:=Nat.le_trans dl (Nat.le_trans m64 (by decide))
   have s3:(m % z+m / z) % z≤100:=Nat.le_trans (Nat.le_of_lt (Nat.mod_lt _ hz.1)) (Nat.le_trans z4 (by decide))
   clear ml dl
   rw [ha]
   simp only [md,dv,dw,sw,tmod_nat]
   refine Wp.itet (by omega) (Wp.itet (by rw [sl];omega) (Wp.bind (spec_l1Max_wp _ _) fun t2 h2=>?_))
   obtain rfl:t2=(a:Int):=by omega
   refine Wp.bindE (spec_l24Power_ev z hz a (by omega)) (Wp.itet (by omega) (Wp.bind (spec_l1Below_v2_wp z h hc) fun t4 h4=>?_))
   refine Wp.ite (fun _=>Wp.itef (ine0 hz.1) ?_) (fun _=>put _ _ _ _ (Nat.le_trans room (by decide)) (sm_lt h4.1.1 (by have:=h4.1.2;omega)) h4.2)
   refine Wp.ite (fun _=>?_) (fun _=>Wp.ite (fun _=>?_) (fun _=>Wp.ite (fun _=>?_) (fun _=>?_)))
   ·exact Wp.bind (spec_l1Max_wp _ _) fun t5 h5=>put _ _ _ _ (Nat.le_trans room (by decide)) (sm_of s1 s2 h5.1) h4.2
   ·exact Wp.bind (spec_l1Min_wp _ _) fun t5 h5=>put _ _ _ _ (Nat.le_trans room (by decide)) (sm_of s1 s2 h5.1) h4.2
   ·exact put _ _ _ _ (Nat.le_trans room (by decide)) (sm_of s3 s3 (.inl rfl)) h4.2
   ·exact put _ _ _ _ (Nat.le_trans room (by decide)) ⟨by decide,by decide⟩ h4.2
  ·rintro row b i h ⟨hml,hrow,hc⟩
   refine Wp.step (fun k=>by rw [fQ6.l1]) ?_
   rw [ha]
   simp only [hw.e]
   refine Wp.itet (by omega) (Wp.itet (by rw [sl];omega) (Wp.bind (spec_l1Max_wp _ _) fun t2 h2=>?_))
   obtain rfl:t2=(a:Int):=by omega
   refine Wp.bindE (spec_l24Power_ev z hz a (by omega)) (Wp.itef (by omega) (Wp.itet (by simp;omega) ?_))
   exact ih _ _ _ _ ⟨by rw [List.length_append,hl];rfl,snoc_all hT ⟨by omega,by omega,hrow⟩,hc⟩
 ·rintro T b i h ⟨hl,hT,hc⟩
  refine Wp.step (fun k=>by rw [fQ6.l0]) ?_
  exact Wp.itef (by rw [sl];omega) (Wp.ret ⟨rfl,hl,hT,hc⟩)
theorem ch6 {v:Int} {x y:TupT ST [.int .i64,.int .i64,.lst (.lst (.int .i64)),.lst (.int .u8),.int .i64,.int .i64]} (h:ChT TT (fun d=>d=.int .i64 v) [.int .i64,.int .i64,.lst (.lst (.int .i64)),.lst (.int .u8),.int .i64,.int .i64] x y):
  y.1=x.1∧y.2.1=x.2.1∧ChS TT (fun d=>d=.int .i64 v) (.lst (.lst (.int .i64)) x.2.2.1) (.lst (.lst (.int .i64)) y.2.2.1)∧y.2.2.2.1=x.2.2.2.1∧y.2.2.2.2.1=x.2.2.2.2.1∧y.2.2.2.2.2=x.2.2.2.2.2:=by
 obtain ⟨⟨_,_,h1,h2,a⟩,⟨_,_,h3,h4,b⟩,⟨_,_,h5,h6,c⟩,⟨_,_,h7,h8,d⟩,⟨_,_,h9,h10,e⟩,⟨_,_,h11,h12,f⟩,_⟩:=h
 cases h1;cases h2;cases h3;cases h4;cases h5;cases h6;cases h7;cases h8;cases h9;cases h10;cases h11;cases h12
 exact ⟨chS_int a,chS_int b,c,chS_u8 d,chS_int e,chS_int f⟩
theorem row1_tb {T:List (List Int)} (hl:T.length≤7) (h:∀x∈T,Row1 x):Tb T:=⟨hl,fun x hx=>(h x hx).2⟩
theorem below_z {r:Int} {n:Int} (h:0≤r∧(r<n∨(n≤0∧r=0))) (h1:1≤n) (h4:n≤4):∃z:Nat,wrap64 (1+r)=z∧1≤z∧z≤4:=
 ⟨(1+r).toNat,by rw [wrap_id (by omega) (by omega)];omega,by omega,by omega⟩
theorem sm_z {z:Nat} (h:z≤4):Sm (z:Int):=⟨by omega,by omega⟩
theorem l24Draw_dm {Y:Type} {P:Y→Prop} (hP:Fin_ P) {b:List Int} {i:Int} (h:Int) (hc:Cur b i) (F:Int×List (List Int)×List Int×Int×Int→Nat→(R:Type)→(Y→Option R)→Option R)
  (hF:∀y,Sm y.1→Tb y.2.1→Cur y.2.2.1 y.2.2.2.1→Dm (F y) P):Dm (fun n R K=>fQ37.f n (R:=R) sig2 b i h (fun y=>F y n R K)) P:=by
 unfold fQ37.f
 refine Dm.bind (spec_l1Below_v2_wp 4 h hc) fun t1 h1=>?_
 obtain ⟨z,hz,hz1,hz4⟩:=below_z h1.1 (by decide) (by decide)
 rw [hz]
 refine Dm.bind (spec_l24DrawFor_v2_wp z ⟨hz1,hz4⟩ _ h1.2) fun t2 h2=>?_
 obtain ⟨e2,l2,r2,c2⟩:=h2
 have tb:=row1_tb (Nat.le_of_eq l2) r2
 have smz:Sm t2.1:=by rw [e2];exact sm_z hz4
 refine Dm.bind (spec_l1Below_v2_wp 8 _ c2) fun t3 h3=>Dm.ite (fun _=>?_) (fun _=>Dm.ite (fun _=>?_) (fun _=>Dm.ite (fun _=>?_) (fun _=>hF _ smz tb h3.2)))
 ·refine Dm.bind (spec_l1PickInt_v2_wp _ (by simp) _ h3.2) fun t4 h4=>hF _ ?_ tb h4.2
  have:=h4.1
  simp only [List.mem_cons,List.not_mem_nil,or_false] at this
  show Sm t4.1
  exact ⟨by omega,by omega⟩
 ·refine Dm.bind (spec_l1Below_v2_wp _ _ h3.2) fun t5 h5=>?_
  have q0:=h5.1.1
  have q1:t5.1<(t2.2.1.length:Int):=by have:=h5.1.2;omega
  refine Dm.itet q0 (Dm.itet q1 (Dm.bind (spec_l1PickInt_v2_wp _ (by simp) _ h5.2) fun t6 h6=>?_))
  have sv:Sm t6.1:=by
   have:=h6.1
   simp only [List.mem_cons,List.not_mem_nil,or_false] at this
   exact ⟨by omega,by omega⟩
  have rl:=(r2 _ (rdRow_mem q0 q1)).1
  refine Dm.itet (by omega) ?_
  refine Dm.rel (Y:=TupT ST [.int .i64,.int .i64,.lst (.lst (.int .i64)),.lst (.int .u8),.int .i64,.int .i64]) (G:=fun _ R K=>relB _ K) (F:=fun (y:TupT ST [.int .i64,.int .i64,.lst (.lst (.int .i64)),.lst (.int .u8),.int .i64,.int .i64]) n R K=>F (y.2.1,y.2.2.1,y.2.2.2.1,y.2.2.2.2.1,y.2.2.2.2.2) n R K) hP (relB_dm ?_ ⟨_,CL.refl (allD_cells _ _)⟩) (fun y hy=>?_)
  ·refine Fin_.mono (Fin_.prod (Fin_.one (0:Int)) (Fin_.prod (Fin_.one t2.1) (Fin_.prod fin_Tb (Fin_.prod (Fin_.one t6.2.1) (Fin_.prod (Fin_.one t6.2.2.1) (Fin_.one t6.2.2.2)))))) (fun y hy=>?_)
   obtain ⟨a,b',c,d,e,f⟩:=ch6 hy
   exact ⟨a,b',(ch_tb sv c tb).1,d,e,f⟩
  ·obtain ⟨a,b',c,d,e,f⟩:=ch6 hy
   exact hF _ (by show Sm y.2.1;rw [b'];exact smz) (ch_tb sv c tb).1 (by show Cur y.2.2.2.1 y.2.2.2.2.1;rw [d,e];exact h6.2)
 ·exact Dm.itet (by omega) (hF _ smz ⟨by rw [List.length_drop];omega,fun x hx=>tb.2 x (List.mem_of_mem_drop hx)⟩ h3.2)
def PP (y:List I_Sym×Int×List (List Int)×Int×List (List Int)):Prop:=y.1=sig2∧Sm y.2.1∧Tb y.2.2.1∧Sm y.2.2.2.1∧Tb y.2.2.2.2
theorem fin_PP:Fin_ PP:=Fin_.prod (Fin_.one sig2) (Fin_.prod fin_Sm (Fin_.prod fin_Tb (Fin_.prod fin_Sm fin_Tb)))
theorem drawProduct_dm (x:List Int) (hx:x.length≤1048576):Dm (fun n R K=>fQ17.f n (R:=R) x K) PP:=by
 unfold fQ17.f
 refine Dm.bind (spec_l1New_v2_wp x hx) fun t1 h1=>Dm.bindE spec_l2Sig_ev (Dm.bind (spec_l1Below_v2_wp 2 _ h1) fun t3 h3=>?_)
 obtain ⟨z,hz,hz1,hz4⟩:=below_z h3.1 (by decide) (by decide)
 rw [hz]
 refine Dm.bind (spec_l24DrawFor_v2_wp z ⟨hz1,hz4⟩ _ h3.2) fun t4 h4=>Dm.bindE spec_l2Sig_ev (Dm.bind (spec_l1Below_v2_wp 2 _ h4.2.2.2) fun t6 h6=>?_)
 obtain ⟨w,hw,hw1,hw4⟩:=below_z h6.1 (by decide) (by decide)
 rw [hw]
 have tb4:=row1_tb (Nat.le_of_eq h4.2.1) h4.2.2.1
 have s4:Sm t4.1:=by rw [h4.1];exact sm_z hz4
 refine Dm.bind (spec_l24DrawFor_v2_wp w ⟨hw1,hw4⟩ _ h6.2) fun t7 h7=>Dm.bind (spec_l1Once_v2_wp 6 _ h7.2.2.2) fun t8 h8=>Dm.ite (fun _=>Dm.bindE spec_l2Sig_ev ?_) (fun _=>?_)
 ·refine l24Draw_dm fin_PP _ h8 (fun t10 k R K=>fQ17.j0 K k 0 0 t4.1 t4.2.1 t10.1 t10.2.1) (fun y s t c=>?_)
  exact Dm.step (fun k R K=>by rw [fQ17.j0]) (Dm.bindE spec_l2Sig_ev (Dm.ret fin_PP ⟨rfl,s4,tb4,s,t⟩))
 ·exact Dm.step (G:=fun k R K=>fQ17.j0 K k 0 0 t4.1 t4.2.1 t7.1 t7.2.1) (fun k R K=>by rw [fQ17.j0]) (Dm.bindE spec_l2Sig_ev (Dm.ret fin_PP (y:=(sig2,t4.1,t4.2.1,t7.1,t7.2.1)) ⟨rfl,s4,tb4,by show Sm t7.1;rw [h7.1];exact sm_z hw4,row1_tb (Nat.le_of_eq h7.2.1) h7.2.2.1⟩))
theorem inR_ofN {z:Nat} {vs:List Int} (h:InR z vs):∃l:List Nat,vs=ofN l∧∀d∈l,d<z:=by
 induction vs with
 | nil=>exact ⟨[],rfl,fun d hd=>nomatch hd⟩
 | cons a r ih=>
  obtain ⟨l,hl,hd⟩:=ih (fun x hx=>h x (List.mem_cons_of_mem _ hx))
  have ha:=h a List.mem_cons_self
  refine ⟨a.toNat::l,?_,fun d hx=>?_⟩
  ·rw [hl];show a::ofN l=((a.toNat:Nat):Int)::ofN l
   rw [Int.toNat_of_nonneg ha.1]
  ·rcases List.mem_cons.1 hx with rfl | hx
   ·omega
   ·exact hd d hx
theorem placeOf_ofN (z:Nat) (l:List Nat):placeOf z (ofN l)=((plc z l:Nat):Int):=by
 induction l with
 | nil=>rfl
 | cons d l ih=>
  show (d:Int)+(z:Int)*placeOf z (ofN l)=_
  rw [ih,plc,Int.natCast_add,Int.natCast_mul]
def nat1 (g:Nat→Nat) (x:Int):Int:=((g x.toNat:Nat):Int)
theorem map_nat1 (g:Nat→Nat) (l:List Nat):(ofN l).map (nat1 g)=ofN (l.map g):=by
 rw [ofN,ofN,List.map_map,List.map_map]
 exact List.map_congr_left fun d _=>by show ((g (d:Int).toNat:Nat):Int)=((g d:Nat):Int);rw [Int.toNat_natCast]
theorem hom_of {s:List I_Sym} {z:Nat} {T:List (List Int)} {z':Nat} {T':List (List Int)} {g:Nat→Nat} (hw:WorldOk s z T) (hw':WorldOk s z' T') (hg:∀x,x<z→g x<z')
  (hr:∀f:Nat,f<s.length→∀l:List Nat,l.length=ar s f→(∀d∈l,d<z)→rd (rd_Ls_i64 T' f) ((plc z' (l.map g):Nat):Int)=nat1 g (rd (rd_Ls_i64 T f) ((plc z l:Nat):Int))):Hom s z T z' T' (nat1 g):=by
 refine ⟨hw,hw',fun x h0 h1=>⟨Int.natCast_nonneg _,?_⟩,fun f h0 h1 vs hv hl=>?_⟩
 ·have:=hg x.toNat (by omega)
  show ((g x.toNat:Nat):Int)<_
  omega
 ·obtain ⟨f,rfl⟩:∃n:Nat,f=n:=⟨f.toNat,by omega⟩
  obtain ⟨l,rfl,hd⟩:=inR_ofN hv
  rw [map_nat1,placeOf_ofN,placeOf_ofN]
  exact hr f (by omega) l (by rw [←ofN_len l,hl];rfl) hd
theorem rd_map (φ:Int→Int) {l:List Int} {v:Int} (h0:0≤v) (h1:v<(l.length:Int)):rd (l.map φ) v=φ (rd l v):=by
 obtain ⟨n,rfl⟩:∃n:Nat,v=n:=⟨v.toNat,by omega⟩
 have hn:n<l.length:=by omega
 rw [rd_get l hn,rd_get (l.map φ) (by rw [List.length_map];exact hn),List.getElem_map]
theorem Hom.env {s:List I_Sym} {z:Nat} {T:List (List Int)} {z':Nat} {T':List (List Int)} {φ:Int→Int} (h:Hom s z T z' T' φ) {env:List Int} (hl:env.length=100) (he:InR z env):InR z' (env.map φ)∧∀v:Int,0≤v→v≤99→varV z' (env.map φ) v=φ (varV z env v):=by
 have h1:InR z' (env.map φ):=by
  intro x hx
  obtain ⟨y,hy,rfl⟩:=List.mem_map.1 hx
  exact h.rng y (he y hy).1 (he y hy).2
 refine ⟨h1,fun v h0 h9=>?_⟩
 rw [varV_at h1 h0 (by rw [List.length_map];omega),varV_at he h0 (by omega),rd_map φ h0 (by omega)]
theorem Hom.lit {s:List I_Sym} {z:Nat} {T:List (List Int)} {z':Nat} {T':List (List Int)} {φ:Int→Int} (h:Hom s z T z' T' φ) (inj:∀x y:Int,0≤x→x<(z:Int)→0≤y→y<(z:Int)→φ x=φ y→x=y) {env:List Int} (hl:env.length=100) (he:InR z env) {l:I_Lit} (h1:FormOk s l.f1) (h2:FormOk s l.f2):LitTrue s z' T' (env.map φ) l↔LitTrue s z T env l:=by
 have hv:=(h.env hl he).2
 rw [LitTrue,LitTrue,h.means hv _ h1,h.means hv _ h2]
 have r1:=mean_rng h.w env _ h1
 have r2:=mean_rng h.w env _ h2
 have:(φ (mean s z T env l.f1)=φ (mean s z T env l.f2))↔(mean s z T env l.f1=mean s z T env l.f2):=⟨inj _ _ r1.1 r1.2 r2.1 r2.2,fun e=>by rw [e]⟩
 rw [this]
theorem dgs_back {z r:Nat} (hz:0<z) {l:List Nat} (hl:l.length=r) (hd:∀d∈l,d<z):dgs z r (plc z l)=l∧plc z l<z ^ r:=by
 subst hl
 exact ⟨dgs_plc hz l hd,plc_lt hz l hd⟩
theorem tab_at {s:List I_Sym} {z f:Nat} {val:Nat→Nat→Int} (hf:f<s.length) (hz:0<z) {l:List Nat} (hl:l.length=ar s f) (hd:∀d∈l,d<z):rd (rd_Ls_i64 (tab s z val) f) ((plc z l:Nat):Int)=val f (plc z l):=by
 rw [rd_tab hf,rd_rg (dgs_back hz hl hd).2]
theorem prod_hom1 {s:List I_Sym} {a b:Nat} {Ta Tb:List (List Int)} (ha:WorldOk s a Ta) (hb:WorldOk s b Tb) (hab:a*b≤4):Hom s (a*b) (tab s (a*b) (prodV a b Ta Tb s)) a Ta (nat1 fun x=>x % a):=by
 have a1:=ha.2.1.1
 have p1:0<a*b:=Nat.mul_pos a1 hb.2.1.1
 refine hom_of (prod_ok ha hb hab) ha (fun x _=>Nat.mod_lt _ a1) (fun f hf l hl hd=>?_)
 rw [tab_at hf p1 hl hd,prodV,(dgs_back p1 hl hd).1,prodVal]
 have r1:=wrow_at ha hf (l:=l.map fun d=>d % a) (by rw [List.length_map];exact hl) (mods_lt a1 l)
 have r2:=wrow_at hb hf (l:=l.map fun d=>d / a) (by rw [List.length_map];exact hl) (divs_lt l hd)
 obtain ⟨_,u0,u1⟩:=r1
 obtain ⟨_,v0,_⟩:=r2
 revert u0 u1 v0
 generalize rd (rd_Ls_i64 Ta ↑f) _=u
 generalize rd (rd_Ls_i64 Tb ↑f) _=v
 intro u0 u1 v0
 obtain ⟨u,rfl⟩:=Int.eq_ofNat_of_zero_le u0
 obtain ⟨v,rfl⟩:=Int.eq_ofNat_of_zero_le v0
 rw [←Int.natCast_mul,←Int.natCast_add,nat1,Int.toNat_natCast,(pair_mod (by omega)).1]
theorem prod_hom2 {s:List I_Sym} {a b:Nat} {Ta Tb:List (List Int)} (ha:WorldOk s a Ta) (hb:WorldOk s b Tb) (hab:a*b≤4):Hom s (a*b) (tab s (a*b) (prodV a b Ta Tb s)) b Tb (nat1 fun x=>x / a):=by
 have a1:=ha.2.1.1
 have p1:0<a*b:=Nat.mul_pos a1 hb.2.1.1
 refine hom_of (prod_ok ha hb hab) hb (fun x hx=>Nat.div_lt_of_lt_mul hx) (fun f hf l hl hd=>?_)
 rw [tab_at hf p1 hl hd,prodV,(dgs_back p1 hl hd).1,prodVal]
 have r1:=wrow_at ha hf (l:=l.map fun d=>d % a) (by rw [List.length_map];exact hl) (mods_lt a1 l)
 have r2:=wrow_at hb hf (l:=l.map fun d=>d / a) (by rw [List.length_map];exact hl) (divs_lt l hd)
 obtain ⟨_,u0,u1⟩:=r1
 obtain ⟨_,v0,_⟩:=r2
 revert u0 u1 v0
 generalize rd (rd_Ls_i64 Ta ↑f) _=u
 generalize rd (rd_Ls_i64 Tb ↑f) _=v
 intro u0 u1 v0
 obtain ⟨u,rfl⟩:=Int.eq_ofNat_of_zero_le u0
 obtain ⟨v,rfl⟩:=Int.eq_ofNat_of_zero_le v0
 rw [←Int.natCast_mul,←Int.natCast_add,nat1,Int.toNat_natCast,(pair_mod (by omega)).2]
def EqIn (s:List I_Sym) (z:Int) (T:List (List Int)) (env:List Int) (l:I_Lit):Prop:=mean s z T env l.f1=mean s z T env l.f2
theorem prod_eqIn {s:List I_Sym} {a b:Nat} {Ta Tb:List (List Int)} (ha:WorldOk s a Ta) (hb:WorldOk s b Tb) (hab:a*b≤4) {env:List Int} (hl:env.length=100) (he:InR (a*b) env) {l:I_Lit} (h1:FormOk s l.f1) (h2:FormOk s l.f2):
  EqIn s (a*b:Nat) (tab s (a*b) (prodV a b Ta Tb s)) env l↔EqIn s a Ta (env.map (nat1 fun x=>x % a)) l∧EqIn s b Tb (env.map (nat1 fun x=>x / a)) l:=by
 have H1:=prod_hom1 ha hb hab
 have H2:=prod_hom2 ha hb hab
 have v1:=(H1.env hl he).2
 have v2:=(H2.env hl he).2
 rw [EqIn,EqIn,EqIn,H1.means v1 _ h1,H1.means v1 _ h2,H2.means v2 _ h1,H2.means v2 _ h2]
 have r1:=mean_rng H1.w env _ h1
 have r2:=mean_rng H1.w env _ h2
 generalize mean s (a*b:Nat) _ env l.f1=x at r1⊢
 generalize mean s (a*b:Nat) _ env l.f2=y at r2⊢
 obtain ⟨x,rfl⟩:=Int.eq_ofNat_of_zero_le r1.1
 obtain ⟨y,rfl⟩:=Int.eq_ofNat_of_zero_le r2.1
 rw [nat1,nat1,nat1,nat1,Int.toNat_natCast,Int.toNat_natCast]
 constructor
 ·intro e
  obtain rfl:x=y:=by omega
  exact ⟨rfl,rfl⟩
 ·rintro ⟨e1,e2⟩
  have e1:x % a=y % a:=by omega
  have e2:x / a=y / a:=by omega
  have:=Nat.mod_add_div x a
  rw [e1,e2,Nat.mod_add_div] at this
  rw [this]
def Horn1 (c:List I_Lit):Prop:=∀i j,i<c.length→j<c.length→(rd_I_Lit c i).f0=true→(rd_I_Lit c j).f0=true→i=j
theorem prod_horn {s:List I_Sym} {a b:Nat} {Ta Tb:List (List Int)} (ha:WorldOk s a Ta) (hb:WorldOk s b Tb) (hab:a*b≤4) {m:Nat} {c:List I_Lit} (hh:Horn1 c) (A:HoldsA m s a Ta c) (Bh:HoldsA m s b Tb c):HoldsA m s (a*b) (tab s (a*b) (prodV a b Ta Tb s)) c:=by
 have H1:=prod_hom1 ha hb hab
 have H2:=prod_hom2 ha hb hab
 refine ⟨H1.w,A.2.1,A.2.2.1,fun env hl he=>?_⟩
 obtain ⟨i,hi,ki⟩:=A.2.2.2 (env.map (nat1 fun x=>x % a)) (by rw [List.length_map];exact hl) (H1.env hl he).1
 obtain ⟨j,hj,kj⟩:=Bh.2.2.2 (env.map (nat1 fun x=>x / a)) (by rw [List.length_map];exact hl) (H2.env hl he).1
 have fi:=A.2.1.lits _ (rdLitN_mem hi)
 have fj:=A.2.1.lits _ (rdLitN_mem hj)
 have pi:=prod_eqIn ha hb hab hl he fi.2.1 fi.2.2
 have pj:=prod_eqIn ha hb hab hl he fj.2.1 fj.2.2
 by_cases ci:(rd_I_Lit c i).f0=true
 ·by_cases cj:(rd_I_Lit c j).f0=true
  ·obtain rfl:=hh i j hi hj ci cj
   exact ⟨i,hi,⟨fun _=>ci,fun _=>pi.2 ⟨ki.2 ci,kj.2 ci⟩⟩⟩
  ·exact ⟨j,hj,⟨fun e=>kj.1 (pj.1 e).2,fun e=>absurd e cj⟩⟩
 ·exact ⟨i,hi,⟨fun e=>ki.1 (pi.1 e).1,fun e=>absurd e ci⟩⟩
def Unit1 (c:List I_Lit):Prop:=c.length=1∧(rd_I_Lit c (0:Nat)).f0=true
theorem unit_some {s:List I_Sym} {z:Int} {T:List (List Int)} {c:List I_Lit} (hu:Unit1 c) (env:List Int):Some1 s z T c env↔EqIn s z T env (rd_I_Lit c (0:Nat)):=by
 constructor
 ·rintro ⟨i,hi,k⟩
  obtain rfl:i=0:=by have:=hu.1;omega
  exact k.2 hu.2
 ·intro k
  exact ⟨0,by have:=hu.1;omega,⟨fun _=>hu.2,fun _=>k⟩⟩
theorem map_nat1_id {z:Nat} {g:Nat→Nat} {env:List Int} (he:InR z env) (h:∀x,x<z→g x=x):env.map (nat1 g)=env:=by
 conv=>rhs;rw [←List.map_id env]
 refine List.map_congr_left fun x hx=>?_
 have:=he x hx
 show ((g x.toNat:Nat):Int)=x
 rw [h _ (by omega)];omega
theorem prod_unit1 {s:List I_Sym} {a b:Nat} {Ta Tb:List (List Int)} (ha:WorldOk s a Ta) (hb:WorldOk s b Tb) (hab:a*b≤4) {m:Nat} {c:List I_Lit} (hu:Unit1 c) (H:HoldsA m s (a*b) (tab s (a*b) (prodV a b Ta Tb s)) c):HoldsA m s a Ta c:=by
 refine ⟨ha,H.2.1,H.2.2.1,fun env hl he=>?_⟩
 have fi:=H.2.1.lits _ (rdLitN_mem (i:=0) (by have:=hu.1;omega))
 have hz:a≤a*b:=Nat.le_mul_of_pos_right a hb.2.1.1
 have he':InR (a*b) env:=fun x hx=>⟨(he x hx).1,by have:=(he x hx).2;omega⟩
 have k:=(prod_eqIn ha hb hab hl he' fi.2.1 fi.2.2).1 ((unit_some hu env).1 (H.2.2.2 env hl he'))
 rw [map_nat1_id he (fun x hx=>Nat.mod_eq_of_lt hx)] at k
 exact (unit_some hu env).2 k.1
theorem prod_unit2 {s:List I_Sym} {a b:Nat} {Ta Tb:List (List Int)} (ha:WorldOk s a Ta) (hb:WorldOk s b Tb) (hab:a*b≤4) {m:Nat} {c:List I_Lit} (hu:Unit1 c) (H:HoldsA m s (a*b) (tab s (a*b) (prodV a b Ta Tb s)) c):HoldsA m s b Tb c:=by
 refine ⟨hb,H.2.1,H.2.2.1,fun env hl he=>?_⟩
 have a1:=ha.2.1.1
 have fi:=H.2.1.lits _ (rdLitN_mem (i:=0) (by have:=hu.1;omega))
 have hl':(env.map (nat1 fun y=>a*y)).length=100:=by rw [List.length_map];exact hl
 have he':InR (a*b) (env.map (nat1 fun y=>a*y)):=by
  intro x hx
  obtain ⟨y,hy,rfl⟩:=List.mem_map.1 hx
  have h:=he y hy
  have h2:a*y.toNat<a*b:=Nat.mul_lt_mul_of_pos_left (by omega) a1
  exact ⟨Int.natCast_nonneg _,ilt h2⟩
 have k:=(prod_eqIn ha hb hab hl' he' fi.2.1 fi.2.2).1 ((unit_some hu _).1 (H.2.2.2 _ hl' he'))
 have e:(env.map (nat1 fun y=>a*y)).map (nat1 fun x=>x / a)=env:=by
  rw [List.map_map]
  conv=>rhs;rw [←List.map_id env]
  refine List.map_congr_left fun x hx=>?_
  have:=he x hx
  show ((((a*x.toNat:Nat):Int).toNat / a:Nat):Int)=x
  rw [Int.toNat_natCast,Nat.mul_div_cancel_left _ a1];omega
 rw [e] at k
 exact (unit_some hu env).2 k.2
theorem prod_unit {s:List I_Sym} {a b:Nat} {Ta Tb:List (List Int)} (ha:WorldOk s a Ta) (hb:WorldOk s b Tb) (hab:a*b≤4) {m:Nat} {c:List I_Lit} (hu:Unit1 c):HoldsA m s (a*b) (tab s (a*b) (prodV a b Ta Tb s)) c↔HoldsA m s a Ta c∧HoldsA m s b Tb c:=
 ⟨fun H=>⟨prod_unit1 ha hb hab hu H,prod_unit2 ha hb hab hu H⟩,fun H=>prod_horn ha hb hab (fun i j hi hj _ _=>by have:=hu.1;omega) H.1 H.2⟩
noncomputable def psC (c:List I_Lit):Nat→Nat
 | 0=>0
 | n+1=>psC c n+(if (rd_I_Lit c (n:Nat)).f0=true then 1 else 0)
theorem psC_mono (c:List I_Lit) {n m:Nat} (h:n≤m):psC c n≤psC c m:=by
 induction h with
 | refl=>exact Nat.le_refl _
 | step _ ih=>rw [psC];omega
theorem psC_le (c:List I_Lit):∀n,psC c n≤n:=by
 intro n
 induction n with
 | zero=>exact Nat.le_refl _
 | succ n ih=>rw [psC];split <;> omega
theorem horn1_of {c:List I_Lit} (h:psC c c.length≤1):Horn1 c:=by
 have two:∀i j,i<j→j<c.length→(rd_I_Lit c i).f0=true→(rd_I_Lit c j).f0=true→False:=by
  intro i j hij hj a b
  have h1:psC c (i+1)=psC c i+1:=by rw [psC,if_pos a]
  have h2:psC c (j+1)=psC c j+1:=by rw [psC,if_pos b]
  have h3:=psC_mono c (show i+1≤j from hij)
  have h4:=psC_mono c (show j+1≤c.length from hj)
  omega
 intro i j hi hj a b
 rcases Nat.lt_trichotomy i j with k | k | k
 ·exact (two i j k hj a b).elim
 ·exact k
 ·exact (two j i k hi b a).elim
theorem impl_Signs_ev (c:List I_Lit) (h:c.length≤1000000000):Ev (fun k=>fQ65.f k c) (((psC c c.length:Nat):Int),wrap64 ((c.length:Int) - ((psC c c.length:Nat):Int))):=by
 unfold fQ65.f
 refine Wp.ev (Wp.cnt1 c.length h (fun q i acc=>fQ65.l0 q acc c c.length i c) (fun i acc=>acc=((psC c i:Nat):Int)) ?_ ?_ (0:Int) rfl)
 ·rintro i acc hi hw rfl ih
  refine Wp.step (fun k=>by rw [fQ65.l0]) ?_
  have hl:=psC_le c i
  have w1:wrap64 (((psC c i:Nat):Int)+1)=((psC c i+1:Nat):Int):=by
   rw [wrap_id (by omega) (by omega)];omega
  simp only [hw.e,w1]
  refine Wp.itet (by omega) (Wp.itet (by omega) (Wp.itet (by omega) (Wp.ite (fun a=>ih _ ?_) (fun a=>ih _ ?_))))
  ·rw [psC,if_pos a]
  ·rw [psC,if_neg a,Nat.add_zero]
 ·rintro acc rfl
  refine Wp.step (fun k=>by rw [fQ65.l0]) ?_
  exact Wp.itef (by omega) (Wp.ret rfl)
theorem impl_Horn_ev (c:List I_Lit) (h:c.length≤1000000000):Ev (fun k=>impl_Horn.f k c) (B (psC c c.length≤1)):=by
 unfold impl_Horn.f
 refine ((impl_Signs_ev c h).bind Ev.ret).val ?_
 rw [dec_B]
 exact B_congr (by omega)
theorem product_ev (s:List I_Sym) (hs:Names s) (a b:Int) (Ta Tb:List (List Int)) (rA:Rows Ta) (rB:Rows Tb):∃v,Ev (fun k=>fQ72.f k s a Ta b Tb) v∧Ev (fun k=>fQ14.f k s a Ta b Tb) v∧(v.2.2=true→Rows v.2.1∧(∀m c,Horn1 c→(0≤a∧HoldsW m s a.toNat Ta c)→(0≤b∧HoldsW m s b.toNat Tb c)→(0≤v.1∧HoldsW m s v.1.toNat v.2.1 c))∧(∀m c,Unit1 c→((0≤v.1∧HoldsW m s v.1.toNat v.2.1 c)↔((0≤a∧HoldsW m s a.toNat Ta c)∧(0≤b∧HoldsW m s b.toNat Tb c))))):=by
 rcases Classical.em ((0≤a∧WorldOk s a.toNat Ta)∧(0≤b∧WorldOk s b.toNat Tb)) with h | h
 ·obtain ⟨⟨a0,ha⟩,b0,hb⟩:=h
  obtain ⟨a,rfl⟩:=Int.eq_ofNat_of_zero_le a0
  obtain ⟨b,rfl⟩:=Int.eq_ofNat_of_zero_le b0
  rw [Int.toNat_natCast] at ha hb
  refine ⟨_,impl_Product_ok s hs rA rB ha hb,spec_Product_ok s hs rA rB ha hb,fun hv=>?_⟩
  by_cases h4:a*b≤4
  ·rw [if_pos h4]
   refine ⟨tab_rows ha.1 h4 _,fun m c hh A Bh=>⟨Int.natCast_nonneg _,?_⟩,fun m c hu=>?_⟩
   ·show HoldsW m s ((a*b:Nat):Int).toNat _ c
    have A:=A.2;have Bh:=Bh.2
    rw [Int.toNat_natCast,holds_all] at A Bh⊢
    exact prod_horn ha hb h4 hh A Bh
   ·show (0≤((a*b:Nat):Int)∧HoldsW m s ((a*b:Nat):Int).toNat _ c)↔_
    rw [Int.toNat_natCast,Int.toNat_natCast,Int.toNat_natCast,holds_all,holds_all,holds_all,prod_unit ha hb h4 hu]
    exact ⟨fun H=>⟨⟨a0,H.2.1⟩,b0,H.2.2⟩,fun H=>⟨Int.natCast_nonneg _,H.1.2,H.2.2⟩⟩
  ·rw [if_neg h4] at hv;cases hv
 ·refine ⟨(0,[],false),?_,?_,fun hv=>nomatch hv⟩
  ·unfold fQ72.f
   simp only [rdW]
   exact Wp.ev (Wp.bindE (impl_WorldOk_ev s a Ta hs rA) (Wp.iteB (fun h1=>Wp.bindE (impl_WorldOk_ev s b Tb hs rB) (Wp.iteB (fun h2=>absurd ⟨h1,h2⟩ h) (fun _=>Wp.ret rfl))) (fun _=>Wp.ret rfl)))
  ·unfold fQ14.f
   exact Wp.ev (Wp.bindE (spec_WorldOk_ev s a Ta hs rA) (Wp.iteB (fun h1=>Wp.bindE (spec_WorldOk_ev s b Tb hs rB) (Wp.iteB (fun h2=>absurd ⟨h1,h2⟩ h) (fun _=>Wp.ret rfl))) (fun _=>Wp.ret rfl)))
theorem laws_big_ev (b:List Int):Ev (fun _=>laws_big.f b) (B ((b.length:Int)>1048576)):=Ev.ret.val dec_B
theorem FnBothAtOnce (x:List Int) (w:(x.length≤maxLen∧∀y∈x,(Lit.int .u8 y).wf=true)):∃k,laws_FnBothAtOnce.f k x=some true:=by
 refine Wp.done ?_
 unfold laws_FnBothAtOnce.f
 refine Wp.bindE (laws_big_ev x) (Wp.iteB (fun _=>Wp.ret rfl) (fun hb=>?_))
 have hx:x.length≤1048576:=by omega
 refine Wp.rel (drawProduct_dm x hx) fun y2 h2=>?_
 obtain ⟨s,a,Ta,b,Tb'⟩:=y2
 obtain ⟨e,_,rA,_,rB⟩:=h2
 have e:s=sig2:=e
 subst e
 refine Wp.bind (spec_DrawTidyClause_wp x hx) fun c hc=>?_
 have hsz:=hc.sz
 have hc8:szC c≤100000000:=by omega
 obtain ⟨v,e1,e2,hv⟩:=product_ev sig2 sig2_names a b Ta Tb' (Tb.rows rA) (Tb.rows rB)
 have same:Wp (fun k=>(fQ14.f k sig2 a Ta b Tb').bind fun t9=>some (decide (v.2.2=t9.2.2))) (fun r=>r=true):=Wp.bindE e2 (Wp.ret (decide_eq_true rfl))
 refine Wp.bindE e1 (Wp.ite (fun c4=>?_) (fun _=>same))
 obtain ⟨rv,hh,hu⟩:=hv c4
 have tA:=impl_True_ev (z:=a) sig2_names (Tb.rows rA) hc8
 have tB:=impl_True_ev (z:=b) sig2_names (Tb.rows rB) hc8
 have tP:=impl_True_ev (z:=v.1) sig2_names rv hc8
 have hlen:c.length≤1000000000:=by have:=szC_len c;omega
 refine Wp.bindE (impl_ClauseOk_ev sig2 sig2_names c (by omega)) (Wp.iteB (fun _=>?_) (fun _=>same))
 refine Wp.bindE (impl_ClauseVars_ev c hc8) (Wp.ite (fun _=>same) (fun _=>?_))
 have horn:(0≤a∧HoldsW 4 sig2 a.toNat Ta c)→Wp (fun k=>if B (0≤b∧HoldsW 4 sig2 b.toNat Tb' c)=true then ((impl_Horn.f k c).bind fun t13=>(if t13=true then ((impl_True.f k sig2 v.1 v.2.1 c).bind fun t14=>(some t14)) else (some true))) else (some true)) (fun r=>r=true):=fun hA=>
  Wp.iteB (fun hB=>Wp.bindE (impl_Horn_ev c hlen) (Wp.iteB (fun h=>Wp.bindE tP (Wp.ret (B_iff.2 (hh 4 c (horn1_of h) hA hB)))) (fun _=>Wp.ret rfl))) (fun _=>Wp.ret rfl)
 refine Wp.bindE tA (Wp.iteB (fun hA=>Wp.bindE tB (Wp.ite (fun l1=>Wp.itet (by omega) (Wp.ite (fun f0=>?_) (fun _=>horn hA))) (fun _=>horn hA))) (fun hA=>Wp.ite (fun l1=>Wp.itet (by omega) (Wp.ite (fun f0=>?_) (fun _=>Wp.ret rfl))) (fun _=>Wp.ret rfl)))
 ·have k:=hu 4 c ⟨by omega,f0⟩
  exact Wp.bindE tP (Wp.ret (decide_eq_true (B_congr (k.trans ⟨fun h=>h.2,fun h=>⟨hA,h⟩⟩))))
 ·have k:=hu 4 c ⟨by omega,f0⟩
  refine Wp.bindE tP (Wp.ret (decide_eq_true ?_))
  exact Bool.eq_false_iff.2 fun h=>hA (k.1 (B_iff.1 h)).1
end Go.Proofs.YtggmgmkhohmfiaaGreat.Pure
