/- The function FnPutMeans returns true for all its arguments, on typed values. -/
import Derived.Test.YtejfjfhopapaaaaGPutMeans1
namespace Go.Proofs.Ytejfjfhopapaaaa.Pure
open Go Go.RowKit Go.Proofs.Ytejfjfhopapaaaa.PE
set_option linter.unusedVariables false
set_option linter.unusedSimpArgs false
def Ev {α:Type} (g:Nat→Option α) (r:α):Prop:=∃K,∀k,K≤k→g k=some r
def Wp {α:Type} (g:Nat→Option α) (P:α→Prop):Prop:=∃r,Ev g r∧P r
theorem Ev.ret {α:Type} {r:α}:Ev (fun _=>some r) r:=⟨0,fun _ _=>rfl⟩
theorem Wp.ret {ρ:Type} {P:ρ→Prop} {r:ρ} (h:P r):Wp (fun _=>some r) P:=⟨r,Ev.ret,h⟩
theorem Ev.bind {α β:Type} {g:Nat→Option α} {f:α→Nat→Option β} {v:α} {r:β} (h:Ev g v) (k:Ev (fun k=>f v k) r):Ev (fun k=>(g k).bind fun x=>f x k) r:=by
 obtain ⟨K,h⟩:=h;obtain ⟨M,k⟩:=k
 exact ⟨max K M,fun n hn=>by show (g n).bind _=_;rw [h n (by omega)];exact k n (by omega)⟩
theorem Wp.bindE {α ρ:Type} {P:ρ→Prop} {g:Nat→Option α} {f:α→Nat→Option ρ} {v:α} (h:Ev g v) (k:Wp (fun k=>f v k) P):Wp (fun k=>(g k).bind fun x=>f x k) P:=by
 obtain ⟨r,k,p⟩:=k;exact ⟨r,h.bind k,p⟩
theorem Wp.bind {α ρ:Type} {P:ρ→Prop} {g:Nat→Option α} {f:α→Nat→Option ρ} {Q:α→Prop} (h:Wp g Q) (k:∀v,Q v→Wp (fun k=>f v k) P):Wp (fun k=>(g k).bind fun x=>f x k) P:=by
 obtain ⟨v,h,q⟩:=h;exact Wp.bindE h (k v q)
theorem Ev.step {α:Type} {g f:Nat→Option α} {r:α} (e:∀k,g (k+1)=f k) (h:Ev f r):Ev g r:=by
 obtain ⟨K,h⟩:=h
 refine ⟨K+1,fun n hn=>?_⟩
 obtain ⟨m,rfl⟩:∃m,n=m+1:=⟨n - 1,by omega⟩
 rw [e];exact h m (by omega)
theorem Wp.step {ρ:Type} {P:ρ→Prop} {g f:Nat→Option ρ} (e:∀k,g (k+1)=f k) (h:Wp f P):Wp g P:=by
 obtain ⟨r,h,p⟩:=h;exact ⟨r,h.step e,p⟩
theorem Wp.eqn {ρ:Type} {P:ρ→Prop} {g f:Nat→Option ρ} (e:∀k,g k=f k) (h:Wp f P):Wp g P:=by
 obtain ⟨r,⟨K,h⟩,p⟩:=h;exact ⟨r,⟨K,fun k hk=>(e k).trans (h k hk)⟩,p⟩
theorem Wp.ite {ρ:Type} {P:ρ→Prop} {c:Prop} {_:Decidable c} {a b:Nat→Option ρ} (h:c→Wp a P) (k:¬c→Wp b P):Wp (fun k=>if c then a k else b k) P:=by
 by_cases hc:c
 ·exact Wp.eqn (fun k=>if_pos hc) (h hc)
 ·exact Wp.eqn (fun k=>if_neg hc) (k hc)
theorem Wp.itet {ρ:Type} {P:ρ→Prop} {c:Prop} {_:Decidable c} {a b:Nat→Option ρ} (hc:c) (h:Wp a P):Wp (fun k=>if c then a k else b k) P:=Wp.eqn (fun k=>if_pos hc) h
theorem Wp.itef {ρ:Type} {P:ρ→Prop} {c:Prop} {_:Decidable c} {a b:Nat→Option ρ} (hc:¬c) (h:Wp b P):Wp (fun k=>if c then a k else b k) P:=Wp.eqn (fun k=>if_neg hc) h
theorem Wp.mono {ρ:Type} {P:ρ→Prop} {g:Nat→Option ρ} {Q:ρ→Prop} (h:Wp g Q) (k:∀r,Q r→P r):Wp g P:=by obtain ⟨r,h,q⟩:=h;exact ⟨r,h,k r q⟩
theorem Wp.ev {ρ:Type} {g:Nat→Option ρ} {v:ρ} (h:Wp g (fun r=>r=v)):Ev g v:=by obtain ⟨r,h,rfl⟩:=h;exact h
theorem Ev.wp {ρ:Type} {P:ρ→Prop} {g:Nat→Option ρ} {v:ρ} (h:Ev g v) (p:P v):Wp g P:=⟨v,h,p⟩
theorem Ev.val {α:Type} {g:Nat→Option α} {r r':α} (h:Ev g r) (e:r=r'):Ev g r':=e▸h
theorem Wp.done {g:Nat→Option Bool} (h:Wp g (fun r=>r=true)):∃k,g k=some true:=by
 obtain ⟨r,⟨K,h⟩,rfl⟩:=h;exact ⟨K,h K (Nat.le_refl _)⟩
theorem wrap_id {x:Int} (h0: -9223372036854775808≤x) (h1:x≤9223372036854775807):wrap64 x=x:=by
 unfold wrap64
 omega
structure Nx (n:Nat):Prop where
 e:wrap64 ((n:Int)+1)=(n:Int)+1
theorem getD_at {α:Type} (z:α) (p:List α) (x:α) (q:List α):(p++x::q).getD p.length z=x:=by simp
theorem rdOf_at {α:Type} (z:α) (p:List α) (x:α) (q:List α):rdOf z (p++x::q) (p.length:Int)=x:=getD_at z p x q
theorem rdOf_mem {α:Type} {z:α} {l:List α} {i:Int} (h0:0≤i) (h1:i<(l.length:Int)):rdOf z l i∈l:=by
 unfold rdOf
 rw [List.getD_eq_getElem?_getD,List.getElem?_eq_getElem (by omega)]
 exact List.getElem_mem _
theorem Wp.each {α ρ:Type} {P:ρ→Prop} {σ:Type} (l:List α) (z:α) (hl:l.length≤1000000000) (L:Nat→Int→σ→Option ρ) (I:List α→σ→Prop)
  (step:∀(p:List α) (x:α) (q:List α) (s:σ),l=p++x::q→x∈l→l.length=p.length+1+q.length→rdOf z l (p.length:Int)=x→Nx p.length→I p s→(∀s',I (p++[x]) s'→Wp (fun k=>L k ((p.length:Int)+1) s') P)→Wp (fun k=>L k (p.length:Int) s) P)
  (stop:∀s,I l s→Wp (fun k=>L k (l.length:Int) s) P) (s:σ) (h0:I [] s):Wp (fun k=>L k 0 s) P:=by
 have key:∀(q p:List α) (s:σ),l=p++q→I p s→Wp (fun k=>L k (p.length:Int) s) P:=by
  intro q
  induction q with
  | nil=>
   intro p s e h
   rw [List.append_nil] at e
   subst e
   exact stop s h
  | cons x q ih=>
   intro p s e h
   have hlen:l.length=p.length+1+q.length:=by rw [e];simp;omega
   refine step p x q s e (by rw [e];simp) hlen (by rw [e];exact rdOf_at z p x q) ⟨wrap_id (by omega) (by omega)⟩ h fun s' h'=>?_
   have:=ih (p++[x]) s' (by rw [e];simp) h'
   rw [show ((p++[x]).length:Int)=(p.length:Int)+1 from by simp] at this
   exact this
 exact key l [] s rfl h0
theorem Wp.each0 {α ρ:Type} {P:ρ→Prop} (l:List α) (z:α) (hl:l.length≤1000000000) (L:Nat→Int→Option ρ) (I:List α→Prop)
  (step:∀(p:List α) (x:α) (q:List α),l=p++x::q→x∈l→l.length=p.length+1+q.length→rdOf z l (p.length:Int)=x→Nx p.length→I p→(I (p++[x])→Wp (fun k=>L k ((p.length:Int)+1)) P)→Wp (fun k=>L k (p.length:Int)) P)
  (stop:I l→Wp (fun k=>L k (l.length:Int)) P) (h0:I []):Wp (fun k=>L k 0) P:=
 Wp.each (σ:=Unit) l z hl (fun k i s=>L k i) (fun p s=>I p) (fun p x q s e m hn hr hw h ih=>step p x q e m hn hr hw h (fun h'=>ih () h')) (fun s h=>stop h) () h0
theorem Wp.each1 {α ρ σ0:Type} {P:ρ→Prop} (l:List α) (z:α) (hl:l.length≤1000000000) (L:Nat→Int→σ0→Option ρ) (I:List α→σ0→Prop)
  (step:∀(p:List α) (x:α) (q:List α) (s0:σ0),l=p++x::q→x∈l→l.length=p.length+1+q.length→rdOf z l (p.length:Int)=x→Nx p.length→I p s0→(∀(t0:σ0),I (p++[x]) t0→Wp (fun k=>L k ((p.length:Int)+1) t0) P)→Wp (fun k=>L k (p.length:Int) s0) P)
  (stop:∀(s0:σ0),I l s0→Wp (fun k=>L k (l.length:Int) s0) P) (s0:σ0) (h0:I [] s0):Wp (fun k=>L k 0 s0) P:=
 Wp.each (σ:=σ0) l z hl (fun k i s=>L k i s) (fun p s=>I p s) (fun p x q s e m hn hr hw h ih=>step p x q s e m hn hr hw h (fun t0 h'=>ih t0 h')) (fun s h=>stop s h) s0 h0
theorem Wp.each2 {α ρ σ0 σ1:Type} {P:ρ→Prop} (l:List α) (z:α) (hl:l.length≤1000000000) (L:Nat→Int→σ0→σ1→Option ρ) (I:List α→σ0→σ1→Prop)
  (step:∀(p:List α) (x:α) (q:List α) (s0:σ0) (s1:σ1),l=p++x::q→x∈l→l.length=p.length+1+q.length→rdOf z l (p.length:Int)=x→Nx p.length→I p s0 s1→(∀(t0:σ0) (t1:σ1),I (p++[x]) t0 t1→Wp (fun k=>L k ((p.length:Int)+1) t0 t1) P)→Wp (fun k=>L k (p.length:Int) s0 s1) P)
  (stop:∀(s0:σ0) (s1:σ1),I l s0 s1→Wp (fun k=>L k (l.length:Int) s0 s1) P) (s0:σ0) (s1:σ1) (h0:I [] s0 s1):Wp (fun k=>L k 0 s0 s1) P:=
 Wp.each (σ:=σ0×σ1) l z hl (fun k i s=>L k i s.1 s.2) (fun p s=>I p s.1 s.2) (fun p x q s e m hn hr hw h ih=>step p x q s.1 s.2 e m hn hr hw h (fun t0 t1 h'=>ih (t0,t1) h')) (fun s h=>stop s.1 s.2 h) (s0,s1) h0
theorem Wp.each4 {α ρ σ0 σ1 σ2 σ3:Type} {P:ρ→Prop} (l:List α) (z:α) (hl:l.length≤1000000000) (L:Nat→Int→σ0→σ1→σ2→σ3→Option ρ) (I:List α→σ0→σ1→σ2→σ3→Prop)
  (step:∀(p:List α) (x:α) (q:List α) (s0:σ0) (s1:σ1) (s2:σ2) (s3:σ3),l=p++x::q→x∈l→l.length=p.length+1+q.length→rdOf z l (p.length:Int)=x→Nx p.length→I p s0 s1 s2 s3→(∀(t0:σ0) (t1:σ1) (t2:σ2) (t3:σ3),I (p++[x]) t0 t1 t2 t3→Wp (fun k=>L k ((p.length:Int)+1) t0 t1 t2 t3) P)→Wp (fun k=>L k (p.length:Int) s0 s1 s2 s3) P)
  (stop:∀(s0:σ0) (s1:σ1) (s2:σ2) (s3:σ3),I l s0 s1 s2 s3→Wp (fun k=>L k (l.length:Int) s0 s1 s2 s3) P) (s0:σ0) (s1:σ1) (s2:σ2) (s3:σ3) (h0:I [] s0 s1 s2 s3):Wp (fun k=>L k 0 s0 s1 s2 s3) P:=
 Wp.each (σ:=σ0×σ1×σ2×σ3) l z hl (fun k i s=>L k i s.1 s.2.1 s.2.2.1 s.2.2.2) (fun p s=>I p s.1 s.2.1 s.2.2.1 s.2.2.2) (fun p x q s e m hn hr hw h ih=>step p x q s.1 s.2.1 s.2.2.1 s.2.2.2 e m hn hr hw h (fun t0 t1 t2 t3 h'=>ih (t0,t1,t2,t3) h')) (fun s h=>stop s.1 s.2.1 s.2.2.1 s.2.2.2 h) (s0,s1,s2,s3) h0
theorem snocAll {α:Type} {Q:α→Prop} {p:List α} {x:α} (h:∀y∈p,Q y) (k:Q x):∀y∈p++[x],Q y:=fun y hy=>(List.mem_append.1 hy).elim (h y) (fun e=>by rw [List.mem_singleton.1 e];exact k)
theorem Wp.cnt {ρ:Type} {P:ρ→Prop} {σ:Type} (n:Nat) (hl:n≤1000000000) (L:Nat→Int→σ→Option ρ) (I:Nat→σ→Prop)
  (step:∀(i:Nat) (s:σ),i<n→Nx i→I i s→(∀s',I (i+1) s'→Wp (fun k=>L k ((i:Int)+1) s') P)→Wp (fun k=>L k (i:Int) s) P)
  (stop:∀s,I n s→Wp (fun k=>L k (n:Int) s) P) (s:σ) (h0:I 0 s):Wp (fun k=>L k 0 s) P:=by
 have key:∀(d i:Nat) (s:σ),i+d=n→I i s→Wp (fun k=>L k (i:Int) s) P:=by
  intro d
  induction d with
  | zero=>intro i s e h;obtain rfl:i=n:=(by omega);exact stop s h
  | succ d ih=>
   intro i s e h
   refine step i s (by omega) ⟨wrap_id (by omega) (by omega)⟩ h fun s' h'=>?_
   have:=ih (i+1) s' (by omega) h'
   rw [show ((i+1:Nat):Int)=(i:Int)+1 from by omega] at this
   exact this
 exact key n 0 s (by omega) h0
theorem Wp.cnt0 {ρ:Type} {P:ρ→Prop} (n:Nat) (hl:n≤1000000000) (L:Nat→Int→Option ρ) (I:Nat→Prop)
  (step:∀(i:Nat),i<n→Nx i→I i→(I (i+1)→Wp (fun k=>L k ((i:Int)+1)) P)→Wp (fun k=>L k (i:Int)) P)
  (stop:I n→Wp (fun k=>L k (n:Int)) P) (h0:I 0):Wp (fun k=>L k 0) P:=
 Wp.cnt (σ:=Unit) n hl (fun k i s=>L k i) (fun i s=>I i) (fun i s hi hw h ih=>step i hi hw h (fun h'=>ih () h')) (fun s h=>stop h) () h0
theorem Wp.cnt1 {ρ σ0:Type} {P:ρ→Prop} (n:Nat) (hl:n≤1000000000) (L:Nat→Int→σ0→Option ρ) (I:Nat→σ0→Prop)
  (step:∀(i:Nat) (s0:σ0),i<n→Nx i→I i s0→(∀(t0:σ0),I (i+1) t0→Wp (fun k=>L k ((i:Int)+1) t0) P)→Wp (fun k=>L k (i:Int) s0) P)
  (stop:∀(s0:σ0),I n s0→Wp (fun k=>L k (n:Int) s0) P) (s0:σ0) (h0:I 0 s0):Wp (fun k=>L k 0 s0) P:=
 Wp.cnt (σ:=σ0) n hl (fun k i s=>L k i s) (fun i s=>I i s) (fun i s hi hw h ih=>step i s hi hw h (fun t0 h'=>ih t0 h')) (fun s h=>stop s h) s0 h0
theorem Wp.cnt4 {ρ σ0 σ1 σ2 σ3:Type} {P:ρ→Prop} (n:Nat) (hl:n≤1000000000) (L:Nat→Int→σ0→σ1→σ2→σ3→Option ρ) (I:Nat→σ0→σ1→σ2→σ3→Prop)
  (step:∀(i:Nat) (s0:σ0) (s1:σ1) (s2:σ2) (s3:σ3),i<n→Nx i→I i s0 s1 s2 s3→(∀(t0:σ0) (t1:σ1) (t2:σ2) (t3:σ3),I (i+1) t0 t1 t2 t3→Wp (fun k=>L k ((i:Int)+1) t0 t1 t2 t3) P)→Wp (fun k=>L k (i:Int) s0 s1 s2 s3) P)
  (stop:∀(s0:σ0) (s1:σ1) (s2:σ2) (s3:σ3),I n s0 s1 s2 s3→Wp (fun k=>L k (n:Int) s0 s1 s2 s3) P) (s0:σ0) (s1:σ1) (s2:σ2) (s3:σ3) (h0:I 0 s0 s1 s2 s3):Wp (fun k=>L k 0 s0 s1 s2 s3) P:=
 Wp.cnt (σ:=σ0×σ1×σ2×σ3) n hl (fun k i s=>L k i s.1 s.2.1 s.2.2.1 s.2.2.2) (fun i s=>I i s.1 s.2.1 s.2.2.1 s.2.2.2) (fun i s hi hw h ih=>step i s.1 s.2.1 s.2.2.1 s.2.2.2 hi hw h (fun t0 t1 t2 t3 h'=>ih (t0,t1,t2,t3) h')) (fun s h=>stop s.1 s.2.1 s.2.2.1 s.2.2.2 h) (s0,s1,s2,s3) h0
noncomputable def B (p:Prop):Bool:=@decide p (Classical.propDecidable p)
theorem B_iff {p:Prop}:B p=true↔p:=@decide_eq_true_iff p (Classical.propDecidable p)
theorem eqB {b:Bool} {p:Prop}:b=B p↔(b=true↔p):=by
 by_cases h:p
 ·rw [B_iff.2 h];simp [h]
 ·have:B p=false:=by rw [←Bool.not_eq_true,B_iff];exact h
  rw [this];simp [h]
theorem B_congr {p q:Prop} (h:p↔q):B p=B q:=by rw [eqB,B_iff];exact h
theorem not_B {p:Prop}:(!B p)=B (¬p):=by rw [eqB,Bool.not_eq_true',←Bool.not_eq_true,B_iff]
theorem dec_B {p:Prop} {_:Decidable p}:decide p=B p:=by rw [eqB,decide_eq_true_iff]
theorem Wp.iteB {ρ:Type} {P:ρ→Prop} {p:Prop} {a b:Nat→Option ρ} (h:p→Wp a P) (k:¬p→Wp b P):Wp (fun k=>if B p=true then a k else b k) P:=Wp.ite (fun e=>h (B_iff.1 e)) (fun e=>k (fun x=>e (B_iff.2 x)))
theorem Wp.itetB {ρ:Type} {P:ρ→Prop} {p:Prop} {a b:Nat→Option ρ} (hc:p) (h:Wp a P):Wp (fun k=>if B p=true then a k else b k) P:=Wp.itet (B_iff.2 hc) h
theorem Wp.itefB {ρ:Type} {P:ρ→Prop} {p:Prop} {a b:Nat→Option ρ} (hc:¬p) (h:Wp b P):Wp (fun k=>if B p=true then a k else b k) P:=Wp.itef (fun e=>hc (B_iff.1 e)) h
theorem qtB {ρ:Type} {P:ρ→Prop} {p:Prop} {a b:Nat→Option ρ} (h:Wp a P) (hc:p:=by first|exact Int.natCast_nonneg _|omega|assumption):Wp (fun k=>if B p=true then a k else b k) P:=Wp.itetB hc h
theorem qfB {ρ:Type} {P:ρ→Prop} {p:Prop} {a b:Nat→Option ρ} (h:Wp b P) (hc:¬p:=by first|exact Int.natCast_nonneg _|omega|assumption):Wp (fun k=>if B p=true then a k else b k) P:=Wp.itefB hc h
theorem qt {ρ:Type} {P:ρ→Prop} {c:Prop} {_:Decidable c} {a b:Nat→Option ρ} (h:Wp a P) (hc:c:=by first|exact Int.natCast_nonneg _|omega|assumption):Wp (fun k=>if c then a k else b k) P:=Wp.itet hc h
theorem qf {ρ:Type} {P:ρ→Prop} {c:Prop} {_:Decidable c} {a b:Nat→Option ρ} (h:Wp b P) (hc:¬c:=by first|exact Int.natCast_nonneg _|omega|assumption):Wp (fun k=>if c then a k else b k) P:=Wp.itef hc h
theorem ql {ρ:Type} {P:ρ→Prop} {c:Prop} {_:Decidable c} {a b:Nat→Option ρ} (h:Wp a P) (hc:c:=by simp only [List.length_append,List.length_cons,List.length_nil,List.length_take,List.length_drop,List.length_replicate];omega):Wp (fun k=>if c then a k else b k) P:=Wp.itet hc h
theorem Wp.allP {Φ:Nat→Prop} {P:Bool→Prop} (n:Nat) (hl:n≤1000000000) (L:Nat→Int→Option Bool)
  (step:∀(i:Nat),i<n→Nx i→(Φ i→Wp (fun k=>L k ((i:Int)+1)) P)→(¬Φ i→P false)→Wp (fun k=>L k (i:Int)) P)
  (stop:(∀i,i<n→Φ i)→Wp (fun k=>L k (n:Int)) P) (bad:(¬∀i,i<n→Φ i)→P false):Wp (fun k=>L k 0) P:=by
 refine Wp.cnt0 n hl L (fun i=>∀j,j<i→Φ j) (fun i hi hw h ih=>step i hi hw (fun hp=>ih (fun j hj=>?_)) (fun hp=>bad (fun h=>hp (h i hi)))) stop (fun j hj=>absurd hj (Nat.not_lt_zero j))
 by_cases e:j=i
 ·rw [e];exact hp
 ·exact h j (by omega)
theorem Wp.all {Φ:Nat→Prop} {Ψ:Prop} (n:Nat) (hl:n≤1000000000) (L:Nat→Int→Option Bool)
  (step:∀(i:Nat) (P:Bool→Prop),i<n→Nx i→(Φ i→Wp (fun k=>L k ((i:Int)+1)) P)→(¬Φ i→P false)→Wp (fun k=>L k (i:Int)) P)
  (stop:(∀i,i<n→Φ i)→Wp (fun k=>L k (n:Int)) (fun r=>r=B Ψ)):Ev (fun k=>L k 0) (B ((∀i,i<n→Φ i)∧Ψ)):=by
 refine Wp.ev (Wp.allP n hl L (fun i hi hw=>step i _ hi hw) (fun h=>(stop h).mono fun r hr=>?_) (fun h=>?_))
 ·rw [hr]
  exact B_congr ⟨fun x=>⟨h,x⟩,fun x=>x.2⟩
 ·rw [eqB]
  exact ⟨fun h=>absurd h (by decide),fun x=>absurd x.1 h⟩
noncomputable def fidx (Φ:Nat→Prop):Nat→Nat→Int
 | 0,_=>-1
 | d+1,i=>if B (Φ i)=true then (i:Int) else fidx Φ d (i+1)
theorem fidx_spec (Φ:Nat→Prop):∀d i,(fidx Φ d i= -1∧∀j,i≤j→j<i+d→¬Φ j)∨(∃j,i≤j∧j<i+d∧fidx Φ d i=(j:Int)∧Φ j∧∀z,i≤z→z<j→¬Φ z):=by
 intro d
 induction d with
 | zero=>intro i;exact .inl ⟨rfl,fun j h1 h2=>by omega⟩
 | succ d ih=>
  intro i
  rw [fidx]
  by_cases h:Φ i
  ·rw [if_pos (B_iff.2 h)]
   exact .inr ⟨i,by omega,by omega,rfl,h,fun z h1 h2=>by omega⟩
  ·rw [if_neg (fun e=>h (B_iff.1 e))]
   rcases ih (i+1) with ⟨h1,h2⟩ | ⟨j,h1,h2,h3,h4,h5⟩
   ·refine .inl ⟨h1,fun j a b=>?_⟩
    by_cases e:j=i
    ·rw [e];exact h
    ·exact h2 j (by omega) (by omega)
   ·refine .inr ⟨j,by omega,by omega,h3,h4,fun z a b=>?_⟩
    by_cases e:z=i
    ·rw [e];exact h
    ·exact h5 z (by omega) b
theorem fidx_ge {Φ:Nat→Prop} {n:Nat}:fidx Φ n 0≥0↔∃i,i<n∧Φ i:=by
 rcases fidx_spec Φ n 0 with ⟨h1,h2⟩ | ⟨j,h1,h2,h3,h4,h5⟩
 ·rw [h1]
  exact ⟨fun h=>absurd h (by decide),fun ⟨i,a,b⟩=>absurd b (h2 i (by omega) (by omega))⟩
 ·rw [h3]
  exact ⟨fun _=>⟨j,by omega,h4⟩,fun _=>by omega⟩
theorem Wp.find {ρ:Type} {Φ:Nat→Prop} (n:Nat) (hl:n≤1000000000) (L:Nat→Int→Option ρ) (ret:Int→ρ)
  (step:∀(i:Nat) (P:ρ→Prop),i<n→Nx i→(¬Φ i→Wp (fun k=>L k ((i:Int)+1)) P)→(Φ i→P (ret i))→Wp (fun k=>L k (i:Int)) P)
  (stop:Wp (fun k=>L k (n:Int)) (fun r=>r=ret (-1))):Ev (fun k=>L k 0) (ret (fidx Φ n 0)):=by
 refine Wp.ev (Wp.cnt0 n hl L (fun i=>fidx Φ n 0=fidx Φ (n - i) i) (fun i hi hw h ih=>step i _ hi hw (fun hp=>ih ?_) (fun hp=>?_)) (fun h=>stop.mono fun r hr=>?_) rfl)
 ·rw [h,show n - i=(n - (i+1))+1 from by omega,fidx,if_neg (fun e=>hp (B_iff.1 e))]
 ·rw [h,show n - i=(n - (i+1))+1 from by omega,fidx,if_pos (B_iff.2 hp)]
 ·rw [hr,h,Nat.sub_self,fidx]
theorem Wp.both {α β ρ:Type} {P:ρ→Prop} (l:List α) (z:α) (l':List β) (z':β) (hll:l.length=l'.length) (hl:l.length≤1000000000) (L:Nat→Int→Option ρ) (I:List α→List β→Prop)
  (step:∀(p:List α) (x:α) (q:List α) (p':List β) (x':β) (q':List β),l=p++x::q→l'=p'++x'::q'→p.length=p'.length→x∈l→x'∈l'→l.length=p.length+1+q.length→rdOf z l (p.length:Int)=x→rdOf z' l' (p.length:Int)=x'→Nx p.length→I p p'→(I (p++[x]) (p'++[x'])→Wp (fun k=>L k ((p.length:Int)+1)) P)→Wp (fun k=>L k (p.length:Int)) P)
  (stop:I l l'→Wp (fun k=>L k (l.length:Int)) P) (h0:I [] []):Wp (fun k=>L k 0) P:=by
 refine Wp.each0 l z hl L (fun p=>I p (l'.take p.length)) (fun p x q e m hn hr hw h ih=>?_) (fun h=>?_) h0
 ·have hp:p.length<l'.length:=by omega
  have e':l'=l'.take p.length++l'[p.length]::l'.drop (p.length+1):=by rw [←List.drop_eq_getElem_cons hp,List.take_append_drop]
  have hl2:(l'.take p.length).length=p.length:=by rw [List.length_take];omega
  refine step p x q (l'.take p.length) l'[p.length] (l'.drop (p.length+1)) e e' hl2.symm m (List.getElem_mem _) hn hr ?_ hw h (fun h'=>ih ?_)
  ·have:=rdOf_at z' (l'.take p.length) l'[p.length] (l'.drop (p.length+1))
   rw [←e',hl2] at this
   exact this
  ·rw [List.length_append,List.length_singleton,List.take_add_one,List.getElem?_eq_getElem hp]
   exact h'
 ·refine stop ?_
  rw [hll,List.take_length] at h
  exact h
def Fin_ {Y:Type} (P:Y→Prop):Prop:=∃L:List Y,∀y,P y→y∈L
def Dm {Y:Type} (G:Nat→(R:Type)→(Y→Option R)→Option R) (P:Y→Prop):Prop:=
 Fin_ P∧∃M,∀k,M≤k→∀(R:Type) (K:Y→Option R) (r:R),(∀y,P y→K y=some r)→G k R K=some r
theorem uniform {Y R:Type} {P:Y→Prop} {F:Nat→Y→Option R} {r:R} (hP:Fin_ P) (h:∀y,P y→∃M,∀k,M≤k→F k y=some r):∃M,∀k,M≤k→∀y,P y→F k y=some r:=by
 obtain ⟨L,hL⟩:=hP
 have key:∀L:List Y,∃M,∀k,M≤k→∀y∈L,P y→F k y=some r:=by
  intro L
  induction L with
  | nil=>exact ⟨0,fun k _ y hy=>by cases hy⟩
  | cons a L ih=>
   obtain ⟨M,hM⟩:=ih
   by_cases ha:P a
   ·obtain ⟨N,hN⟩:=h a ha
    refine ⟨max M N,fun k hk y hy py=>?_⟩
    rcases List.mem_cons.1 hy with rfl | hy
    ·exact hN k (by omega)
    ·exact hM k (by omega) y hy py
   ·refine ⟨M,fun k hk y hy py=>?_⟩
    rcases List.mem_cons.1 hy with rfl | hy
    ·exact absurd py ha
    ·exact hM k hk y hy py
 obtain ⟨M,hM⟩:=key L
 exact ⟨M,fun k hk y py=>hM k hk y (hL y py) py⟩
theorem Wp.rel {Y ρ:Type} {P:Y→Prop} {G:Nat→(R:Type)→(Y→Option R)→Option R} {F:Y→Nat→Option ρ} {r:ρ} (h:Dm G P) (k:∀y,P y→Wp (fun n=>F y n) (fun x=>x=r)):Wp (fun n=>G n ρ (fun y=>F y n)) (fun x=>x=r):=by
 obtain ⟨hP,M,hM⟩:=h
 obtain ⟨N,hN⟩:=uniform (F:=fun n y=>F y n) hP (fun y py=>(k y py).ev)
 exact ⟨r,⟨max M N,fun n hn=>hM n (by omega) _ _ r (fun y py=>hN n (by omega) y py)⟩,rfl⟩
theorem Dm.mono {Y:Type} {G:Nat→(R:Type)→(Y→Option R)→Option R} {P Q:Y→Prop} (h:Dm G P) (hQ:Fin_ Q) (k:∀y,P y→Q y):Dm G Q:=by
 obtain ⟨_,M,hM⟩:=h
 exact ⟨hQ,M,fun n hn R K r hK=>hM n hn R K r (fun y py=>hK y (k y py))⟩
theorem Dm.ret {Y:Type} {P:Y→Prop} (hP:Fin_ P) {y:Y} (h:P y):Dm (fun _ _ K=>K y) P:=⟨hP,0,fun _ _ _ _ _ hK=>hK y h⟩
theorem Dm.bindE {α Y:Type} {P:Y→Prop} {g:Nat→Option α} {G:α→Nat→(R:Type)→(Y→Option R)→Option R} {v:α} (h:Ev g v) (k:Dm (G v) P):Dm (fun n R K=>(g n).bind fun x=>G x n R K) P:=by
 obtain ⟨M,hM⟩:=h
 obtain ⟨hP,N,hN⟩:=k
 refine ⟨hP,max M N,fun n hn R K r hK=>?_⟩
 show (g n).bind _=_
 rw [hM n (by omega)]
 exact hN n (by omega) R K r hK
theorem Dm.bind {α Y:Type} {P:Y→Prop} {Q:α→Prop} {g:Nat→Option α} {G:α→Nat→(R:Type)→(Y→Option R)→Option R} (h:Wp g Q) (k:∀v,Q v→Dm (G v) P):Dm (fun n R K=>(g n).bind fun x=>G x n R K) P:=by
 obtain ⟨v,h,q⟩:=h;exact Dm.bindE h (k v q)
theorem Dm.rel {Y Z:Type} {P:Y→Prop} {Q:Z→Prop} {G:Nat→(R:Type)→(Y→Option R)→Option R} {F:Y→Nat→(R:Type)→(Z→Option R)→Option R} (hQ:Fin_ Q) (h:Dm G P) (k:∀y,P y→Dm (F y) Q):Dm (fun n R K=>G n R (fun y=>F y n R K)) Q:=by
 obtain ⟨hP,M,hM⟩:=h
 have:∃N,∀n,N≤n→∀y,P y→∀(R:Type) (K:Z→Option R) (r:R),(∀z,Q z→K z=some r)→F y n R K=some r:=by
  have:=uniform (R:=Unit) (F:=fun n y=>@ite _ (∀(R:Type) (K:Z→Option R) (r:R),(∀z,Q z→K z=some r)→F y n R K=some r) (Classical.propDecidable _) (some ()) none) (r:=()) hP (fun y py=>by
   obtain ⟨_,N,hN⟩:=k y py
   exact ⟨N,fun n hn=>if_pos (fun R K r hK=>hN n hn R K r hK)⟩)
  obtain ⟨N,hN⟩:=this
  refine ⟨N,fun n hn y py=>?_⟩
  have:=hN n hn y py
  by_cases hc:(∀(R:Type) (K:Z→Option R) (r:R),(∀z,Q z→K z=some r)→F y n R K=some r)
  ·exact hc
  ·rw [if_neg hc] at this;cases this
 obtain ⟨N,hN⟩:=this
 exact ⟨hQ,max M N,fun n hn R K r hK=>hM n (by omega) R _ r (fun y py=>hN n (by omega) y py R K r hK)⟩
theorem Dm.ite {Y:Type} {P:Y→Prop} {c:Prop} {_:Decidable c} {a b:Nat→(R:Type)→(Y→Option R)→Option R} (h:c→Dm a P) (k:¬c→Dm b P):Dm (fun n R K=>if c then a n R K else b n R K) P:=by
 by_cases hc:c
 ·have:=h hc;simp only [if_pos hc];exact this
 ·have:=k hc;simp only [if_neg hc];exact this
theorem Dm.itet {Y:Type} {P:Y→Prop} {c:Prop} {_:Decidable c} {a b:Nat→(R:Type)→(Y→Option R)→Option R} (hc:c) (h:Dm a P):Dm (fun n R K=>if c then a n R K else b n R K) P:=by simp only [if_pos hc];exact h
theorem Dm.itef {Y:Type} {P:Y→Prop} {c:Prop} {_:Decidable c} {a b:Nat→(R:Type)→(Y→Option R)→Option R} (hc:¬c) (h:Dm b P):Dm (fun n R K=>if c then a n R K else b n R K) P:=by simp only [if_neg hc];exact h
theorem relB_dm {Y:Type} {P:Y→Prop} (hP:Fin_ P) (hn:∃y,P y):Dm (fun _ R K=>relB P K) P:=by
 refine ⟨hP,0,fun n _ R K r hK=>?_⟩
 have h:∃r,∀y,P y→K y=some r:=⟨r,hK⟩
 show relB P K=some r
 unfold relB
 rw [dif_pos h]
 obtain ⟨y,py⟩:=hn
 rw [←h.choose_spec y py]
 exact hK y py
theorem tEta (t:I_Term):(⟨t.f0,t.f1,t.f2⟩:I_Term)=t:=by cases t;rfl
mutual
def sz:I_Term→Nat
 | ⟨_,_,l⟩=>szs l+1
def szs:List I_Term→Nat
 | []=>0
 | t::l=>sz t+szs l
end
theorem sz_eq (t:I_Term):sz t=szs t.f2+1:=by cases t;rw [sz]
theorem szs_mem {l:List I_Term} {x:I_Term} (h:x∈l):sz x≤szs l:=by
 induction l with
 | nil=>cases h
 | cons a l ih=>
  rw [szs]
  rcases List.mem_cons.1 h with rfl | h
  ·omega
  ·have:=ih h;omega
theorem szs_append (a b:List I_Term):szs (a++b)=szs a+szs b:=by
 induction a with
 | nil=>simp [szs]
 | cons x a ih=>rw [List.cons_append,szs,szs,ih];omega
theorem szs_len (l:List I_Term):l.length≤szs l:=by
 induction l with
 | nil=>simp
 | cons x l ih=>rw [List.length_cons,szs,sz_eq];omega
theorem sz_kid {t x:I_Term} (h:x∈t.f2):sz x<sz t:=by rw [sz_eq t];have:=szs_mem h;omega
theorem sz_kids (t:I_Term):t.f2.length<sz t:=by rw [sz_eq t];have:=szs_len t.f2;omega
theorem tInd {P:I_Term→Prop} (h:∀t,(∀x∈t.f2,P x)→P t) (t:I_Term):P t:=by
 have key:∀n t,sz t≤n→P t:=by
  intro n
  induction n with
  | zero=>intro t ht;rw [sz_eq] at ht;omega
  | succ n ih=>intro t ht;exact h t (fun x hx=>ih x (by have:=sz_kid hx;omega))
 exact key _ t (Nat.le_refl _)
mutual
def cmpT:I_Term→I_Term→Ordering
 | ⟨f,v,l⟩,⟨f',v',l'⟩=>(compare f f').then ((compare v v').then ((compare l.length l'.length).then (cmpTs l l')))
def cmpTs:List I_Term→List I_Term→Ordering
 | [],_=>.eq
 | _::_,[]=>.eq
 | t::l,t'::l'=>(cmpT t t').then (cmpTs l l')
end
theorem cmpT_eq (a b:I_Term):cmpT a b=(compare a.f0 b.f0).then ((compare a.f1 b.f1).then ((compare a.f2.length b.f2.length).then (cmpTs a.f2 b.f2))):=by
 cases a;cases b;rw [cmpT]
theorem cmpI_refl (a:Int):compare a a=.eq:=by rw [Int.compare_eq_eq]
theorem cmpT_refl (a:I_Term):cmpT a a=.eq:=by
 induction a using tInd with
 | h t ih=>
  have:∀l:List I_Term,(∀x∈l,cmpT x x=.eq)→cmpTs l l=.eq:=by
   intro l
   induction l with
   | nil=>intro _;rw [cmpTs]
   | cons x l ihl=>intro h;rw [cmpTs,h x (by simp),ihl (fun y hy=>h y (by simp [hy]))];rfl
  rw [cmpT_eq,cmpI_refl,cmpI_refl,this _ ih,Nat.compare_eq_eq.2 rfl];rfl
theorem cmpTs_pre (p l l':List I_Term):cmpTs (p++l) (p++l')=cmpTs l l':=by
 induction p with
 | nil=>rfl
 | cons x p ih=>rw [List.cons_append,List.cons_append,cmpTs,cmpT_refl,ih];rfl
theorem then_eq {a b:Ordering}:a.then b=.eq↔a=.eq∧b=.eq:=by cases a <;> simp [Ordering.then]
theorem cmpT_same {a b:I_Term}:cmpT a b=.eq↔a=b:=by
 constructor
 ·induction a using tInd generalizing b with
  | h t ih=>
   intro h
   rw [cmpT_eq,then_eq,then_eq,then_eq,Int.compare_eq_eq,Int.compare_eq_eq,Nat.compare_eq_eq] at h
   obtain ⟨h0,h1,h2,h3⟩:=h
   have:∀l l':List I_Term,(∀x∈l,∀{b},cmpT x b=.eq→x=b)→l.length=l'.length→cmpTs l l'=.eq→l=l':=by
    intro l
    induction l with
    | nil=>intro l' _ h _;exact (List.length_eq_zero_iff.1 h.symm).symm
    | cons x l ihl=>
     intro l' hx hl h
     cases l' with
     | nil=>simp at hl
     | cons y l'=>
      rw [cmpTs,then_eq] at h
      rw [hx x (by simp) h.1,ihl l' (fun z hz=>hx z (by simp [hz])) (by simpa using hl) h.2]
   have h4:=this _ _ ih h2 h3
   cases t;cases b;simp_all
 ·rintro rfl;exact cmpT_refl a
noncomputable instance:DecidableEq I_Term:=fun a b=>if h:cmpT a b=.eq then isTrue (cmpT_same.1 h) else isFalse (fun e=>h (cmpT_same.2 e))
def ordI:Ordering→Int
 | .lt=>-1
 | .eq=>0
 | .gt=>1
def bef (a b:I_Term):Bool:=cmpT a b==.lt
theorem impl_from_ev (a b c:Int):Ev (fun _=>impl_from.f a b c) (B (b≤a∧a≤c)):=by
 refine Wp.ev ?_
 unfold impl_from.f
 repeat' (first|(with_reducible first|refine qtB ?_|refine qfB ?_|refine qt ?_|refine qf ?_)|(simp only [decide_eq_true_eq])|(with_reducible refine Wp.ret ?_)|(with_reducible refine ql ?_)|(with_reducible refine Wp.iteB (fun hc=>?_) (fun hc=>?_))|(with_reducible refine Wp.ite (fun hc=>?_) (fun hc=>?_)))
 all_goals (rw [eqB];simp;omega)
theorem spec_l1In_ev (a b c:Int):Ev (fun _=>spec_l1In.f a b c) (B (b≤a∧a≤c)):=by
 refine Wp.ev ?_
 unfold spec_l1In.f
 repeat' (first|(with_reducible first|refine qtB ?_|refine qfB ?_|refine qt ?_|refine qf ?_)|(simp only [decide_eq_true_eq])|(with_reducible refine Wp.ret ?_)|(with_reducible refine ql ?_)|(with_reducible refine Wp.iteB (fun hc=>?_) (fun hc=>?_))|(with_reducible refine Wp.ite (fun hc=>?_) (fun hc=>?_)))
 all_goals (rw [eqB];simp;omega)
theorem impl_isSmall_ev (a:Int):Ev (fun _=>fQ62.f a) (B (97≤a∧a≤122)):=by
 refine Wp.ev ?_
 unfold fQ62.f
 repeat' (first|(with_reducible first|refine qtB ?_|refine qfB ?_|refine qt ?_|refine qf ?_)|(simp only [decide_eq_true_eq])|(with_reducible refine Wp.ret ?_)|(with_reducible refine ql ?_)|(with_reducible refine Wp.iteB (fun hc=>?_) (fun hc=>?_))|(with_reducible refine Wp.ite (fun hc=>?_) (fun hc=>?_)))
 all_goals (rw [eqB];simp;omega)
theorem impl_isDigit_ev (a:Int):Ev (fun _=>fQ65.f a) (B (48≤a∧a≤57)):=by
 refine Wp.ev ?_
 unfold fQ65.f
 repeat' (first|(with_reducible first|refine qtB ?_|refine qfB ?_|refine qt ?_|refine qf ?_)|(simp only [decide_eq_true_eq])|(with_reducible refine Wp.ret ?_)|(with_reducible refine ql ?_)|(with_reducible refine Wp.iteB (fun hc=>?_) (fun hc=>?_))|(with_reducible refine Wp.ite (fun hc=>?_) (fun hc=>?_)))
 all_goals (rw [eqB];simp;omega)
def ChOk (s:ByteArray) (i:Nat):Prop:=(97≤bt s i∧bt s i≤122)∨(0<i∧48≤bt s i∧bt s i≤57)
def NameOk (s:ByteArray):Prop:=(∀i,i<s.size→ChOk s i)∧(1≤(s.size:Int)∧(s.size:Int)≤8)
theorem spec_NameOk_ev (s:ByteArray) (h:s.size≤1000000000):Ev (fun k=>fQ41.f k s) (B (NameOk s)):=by
 unfold fQ41.f
 refine Wp.all s.size h (fun k i=>fQ41.l0 k s i) ?_ ?_
 ·intro i P hi hw hT hF
  refine Wp.step (fun k=>by rw [fQ41.l0]) ?_
  simp only [hw.e]
  repeat' (first|(with_reducible first|refine qtB ?_|refine qfB ?_|refine qt ?_|refine qf ?_)|(simp only [decide_eq_true_eq])|(with_reducible refine Wp.ret ?_)|(with_reducible refine ql ?_)|(with_reducible refine Wp.iteB (fun hc=>?_) (fun hc=>?_))|(with_reducible refine Wp.ite (fun hc=>?_) (fun hc=>?_)))
  all_goals first | exact hT (by unfold ChOk;omega) | exact hF (by unfold ChOk;omega)
 ·intro _
  refine Wp.step (fun k=>by rw [fQ41.l0]) ?_
  repeat' (first|(with_reducible first|refine qtB ?_|refine qfB ?_|refine qt ?_|refine qf ?_)|(with_reducible refine Wp.bindE (spec_l1In_ev _ _ _) ?_)|(simp only [decide_eq_true_eq])|(with_reducible refine Wp.ret ?_)|(with_reducible refine ql ?_)|(with_reducible refine Wp.iteB (fun hc=>?_) (fun hc=>?_))|(with_reducible refine Wp.ite (fun hc=>?_) (fun hc=>?_)))
theorem impl_NameOk_ev (s:ByteArray) (h:s.size≤1000000000):Ev (fun k=>fQ42.f k s) (B (NameOk s)):=by
 unfold fQ42.f
 refine (Wp.all (Φ:=fun i=>(97≤bt s i∧bt s i≤122)∨(48≤bt s i∧bt s i≤57)) (Ψ:=(1≤(s.size:Int)∧(s.size:Int)≤8)∧(97≤bt s 0∧bt s 0≤122)) s.size h (fun k i=>fQ42.l0 k s s.size i) ?_ ?_).val (B_congr ?_)
 ·intro i P hi hw hT hF
  refine Wp.step (fun k=>by rw [fQ42.l0]) ?_
  simp only [hw.e]
  repeat' (first|(with_reducible first|refine qtB ?_|refine qfB ?_|refine qt ?_|refine qf ?_)|(with_reducible refine Wp.bindE (impl_isSmall_ev _) ?_)|(with_reducible refine Wp.bindE (impl_isDigit_ev _) ?_)|(simp only [decide_eq_true_eq])|(with_reducible refine Wp.ret ?_)|(with_reducible refine ql ?_)|(with_reducible refine Wp.iteB (fun hc=>?_) (fun hc=>?_))|(with_reducible refine Wp.ite (fun hc=>?_) (fun hc=>?_)))
  all_goals first | exact hT (by omega) | exact hF (by omega)
 ·intro _
  refine Wp.step (fun k=>by rw [fQ42.l0]) ?_
  repeat' (first|(with_reducible first|refine qtB ?_|refine qfB ?_|refine qt ?_|refine qf ?_)|(with_reducible refine Wp.bindE (impl_from_ev _ _ _) ?_)|(with_reducible refine Wp.bindE (impl_isSmall_ev _) ?_)|(simp only [decide_eq_true_eq])|(with_reducible refine Wp.ret ?_)|(with_reducible refine ql ?_)|(with_reducible refine Wp.iteB (fun hc=>?_) (fun hc=>?_))|(with_reducible refine Wp.ite (fun hc=>?_) (fun hc=>?_)))
  all_goals (rw [eqB];simp [B_iff];try omega)
 ·unfold NameOk ChOk
  constructor
  ·rintro ⟨h1,h2,h3⟩
   refine ⟨fun i hi=>?_,h2⟩
   by_cases e:i=0
   ·rw [e];exact .inl h3
   ·rcases h1 i hi with h | h
    ·exact .inl h
    ·exact .inr ⟨by omega,h⟩
  ·rintro ⟨h1,h2⟩
   refine ⟨fun i hi=>?_,h2,?_⟩
   ·rcases h1 i hi with h | h
    ·exact .inl h
    ·exact .inr h.2
   ·rcases h1 0 (by omega) with h | h
    ·exact h
    ·omega
noncomputable def symOf (s:List I_Sym) (nm:ByteArray):Int:=fidx (fun i=>(rd_I_Sym s i).f0=nm) s.length 0
theorem spec_SymOf_ev (s:List I_Sym) (nm:ByteArray) (h:s.length≤1000000000):Ev (fun k=>fQ50.f k s nm) (symOf s nm):=by
 unfold fQ50.f
 refine Wp.find s.length h (fun k i=>fQ50.l0 k s nm i) (fun i=>i) ?_ ?_
 ·intro i P hi hw hT hF
  refine Wp.step (fun k=>by rw [fQ50.l0]) ?_
  simp only [hw.e]
  repeat' (first|(with_reducible first|refine qtB ?_|refine qfB ?_|refine qt ?_|refine qf ?_)|(simp only [decide_eq_true_eq])|(with_reducible refine Wp.ret ?_)|(with_reducible refine ql ?_)|(with_reducible refine Wp.iteB (fun hc=>?_) (fun hc=>?_))|(with_reducible refine Wp.ite (fun hc=>?_) (fun hc=>?_)))
  all_goals first | exact hF (by assumption) | exact hT (by assumption)
 ·refine Wp.step (fun k=>by rw [fQ50.l0]) ?_
  repeat' (first|(with_reducible first|refine qtB ?_|refine qfB ?_|refine qt ?_|refine qf ?_)|(simp only [decide_eq_true_eq])|(with_reducible refine Wp.ret ?_)|(with_reducible refine ql ?_)|(with_reducible refine Wp.iteB (fun hc=>?_) (fun hc=>?_))|(with_reducible refine Wp.ite (fun hc=>?_) (fun hc=>?_)))
  all_goals rfl
theorem impl_SymOf_ev (s:List I_Sym) (nm:ByteArray) (h:s.length≤1000000000):Ev (fun k=>fQ71.f k s nm) (symOf s nm):=by
 have key:Ev (fun k=>fQ6.f k s nm) (symOf s nm,nm):=by
  unfold fQ6.f
  refine Wp.find s.length h (fun k i=>fQ6.l0 k s s.length i nm) (fun i=>(i,nm)) ?_ ?_
  ·intro i P hi hw hT hF
   refine Wp.step (fun k=>by rw [fQ6.l0]) ?_
   simp only [hw.e,fQ48.f,Option.bind_some]
   repeat' (first|(with_reducible first|refine qtB ?_|refine qfB ?_|refine qt ?_|refine qf ?_)|(simp only [decide_eq_true_eq])|(with_reducible refine Wp.ret ?_)|(with_reducible refine ql ?_)|(with_reducible refine Wp.iteB (fun hc=>?_) (fun hc=>?_))|(with_reducible refine Wp.ite (fun hc=>?_) (fun hc=>?_)))
   all_goals first | exact hF (by assumption) | exact hT (by assumption)
  ·refine Wp.step (fun k=>by rw [fQ6.l0]) ?_
   repeat' (first|(with_reducible first|refine qtB ?_|refine qfB ?_|refine qt ?_|refine qf ?_)|(simp only [decide_eq_true_eq])|(with_reducible refine Wp.ret ?_)|(with_reducible refine ql ?_)|(with_reducible refine Wp.iteB (fun hc=>?_) (fun hc=>?_))|(with_reducible refine Wp.ite (fun hc=>?_) (fun hc=>?_)))
   all_goals rfl
 unfold fQ71.f
 exact key.bind Ev.ret
def SymRow (s:List I_Sym) (i:Nat):Prop:=NameOk (rd_I_Sym s i).f0∧symOf s (rd_I_Sym s i).f0=(i:Int)∧(0≤(rd_I_Sym s i).f1∧(rd_I_Sym s i).f1≤3)∧((rd_I_Sym s i).f2=true→(rd_I_Sym s i).f1=2)
def SigOk (s:List I_Sym):Prop:=(∀i,i<s.length→SymRow s i)∧(1≤(s.length:Int)∧(s.length:Int)≤8)∧(rd_I_Sym s 0).f0=⟨#[116,116]⟩∧(rd_I_Sym s 0).f1=0
def Names (s:List I_Sym):Prop:=s.length≤1000000000∧∀x∈s,x.f0.size≤1000000000
theorem rdSym_mem {s:List I_Sym} {i:Int} (h0:0≤i) (h1:i<(s.length:Int)):rd_I_Sym s i∈s:=rdOf_mem (z:=zI_Sym) h0 h1
theorem impl_SigOk_ev (s:List I_Sym) (h:Names s):Ev (fun k=>fQ43.f k s) (B (SigOk s)):=by
 unfold fQ43.f
 refine Wp.all s.length h.1 (fun k i=>fQ43.l0 k s s s.length i) ?_ ?_
 ·intro i P hi hw hT hF
  refine Wp.step (fun k=>by rw [fQ43.l0]) ?_
  have hl:=h.1
  have hm:=h.2 _ (rdSym_mem (s:=s) (i:=i) (by omega) (by omega))
  simp only [hw.e]
  repeat' (first|(with_reducible first|refine qtB ?_|refine qfB ?_|refine qt ?_|refine qf ?_)|(with_reducible refine Wp.bindE (impl_NameOk_ev _ hm) ?_)|(with_reducible refine Wp.bindE (impl_SymOf_ev _ _ hl) ?_)|(with_reducible refine Wp.bindE (impl_from_ev _ _ _) ?_)|(simp only [decide_eq_true_eq])|(with_reducible refine Wp.ret ?_)|(with_reducible refine ql ?_)|(with_reducible refine Wp.iteB (fun hc=>?_) (fun hc=>?_))|(with_reducible refine Wp.ite (fun hc=>?_) (fun hc=>?_)))
  all_goals first | exact hT (by unfold SymRow;grind) | exact hF (by unfold SymRow;grind)
 ·intro hall
  refine Wp.step (fun k=>by rw [fQ43.l0]) ?_
  repeat' (first|(with_reducible first|refine qtB ?_|refine qfB ?_|refine qt ?_|refine qf ?_)|(with_reducible refine Wp.bindE (impl_from_ev _ _ _) ?_)|(simp only [decide_eq_true_eq])|(with_reducible refine Wp.ret ?_)|(with_reducible refine ql ?_)|(with_reducible refine Wp.iteB (fun hc=>?_) (fun hc=>?_))|(with_reducible refine Wp.ite (fun hc=>?_) (fun hc=>?_)))
  all_goals (rw [eqB];grind)
theorem spec_SigOk_ev (s:List I_Sym) (h:Names s):Ev (fun k=>fQ49.f k s) (B (SigOk s)):=by
 unfold fQ49.f
 refine Wp.all s.length h.1 (fun k i=>fQ49.l0 k s i) ?_ ?_
 ·intro i P hi hw hT hF
  refine Wp.step (fun k=>by rw [fQ49.l0]) ?_
  have hl:=h.1
  have hm:=h.2 _ (rdSym_mem (s:=s) (i:=i) (by omega) (by omega))
  simp only [hw.e]
  repeat' (first|(with_reducible first|refine qtB ?_|refine qfB ?_|refine qt ?_|refine qf ?_)|(with_reducible refine Wp.bindE (spec_NameOk_ev _ hm) ?_)|(with_reducible refine Wp.bindE (spec_SymOf_ev _ _ hl) ?_)|(with_reducible refine Wp.bindE (spec_l1In_ev _ _ _) ?_)|(simp only [decide_eq_true_eq])|(with_reducible refine Wp.ret ?_)|(with_reducible refine ql ?_)|(with_reducible refine Wp.iteB (fun hc=>?_) (fun hc=>?_))|(with_reducible refine Wp.ite (fun hc=>?_) (fun hc=>?_)))
  all_goals first | exact hT (by unfold SymRow;grind) | exact hF (by unfold SymRow;grind)
 ·intro hall
  refine Wp.step (fun k=>by rw [fQ49.l0]) ?_
  repeat' (first|(with_reducible first|refine qtB ?_|refine qfB ?_|refine qt ?_|refine qf ?_)|(with_reducible refine Wp.bindE (spec_l1In_ev _ _ _) ?_)|(simp only [decide_eq_true_eq])|(with_reducible refine Wp.ret ?_)|(with_reducible refine ql ?_)|(with_reducible refine Wp.iteB (fun hc=>?_) (fun hc=>?_))|(with_reducible refine Wp.ite (fun hc=>?_) (fun hc=>?_)))
  ·have h0:=(hall 0 (by omega)).2.2.2
   rw [eqB]
   simp only [Bool.and_eq_true,decide_eq_true_eq,Bool.and_true]
   constructor
   ·rintro ⟨a,b,c⟩;exact ⟨by assumption,a,b⟩
   ·rintro ⟨a,b,c⟩
    refine ⟨b,c,?_⟩
    rw [Bool.eq_false_iff]
    intro e
    have:=h0 e
    have e0:(rd_I_Sym s ((0:Nat):Int)).f1=0:=c
    omega
  ·rw [eqB];grind
theorem z4 {z:Nat} (h:1≤z∧z≤4):z=1∨z=2∨z=3∨z=4:=by omega
theorem impl_placesOf_ev (z:Nat) (hz:1≤z∧z≤4) (a:Int) (ha:0≤a∧a≤3):Ev (fun k=>fQ35.f k z a) ((z ^ a.toNat:Nat):Int):=by
 obtain ⟨a,rfl⟩:∃n:Nat,a=n:=⟨a.toNat,by omega⟩
 unfold fQ35.f
 refine Wp.ev (Wp.cnt1 a (by omega) (fun k i s=>fQ35.l0 k z s a i) (fun i s=>s=((z ^ i:Nat):Int)) ?_ ?_ 1 rfl)
 ·intro i s hi hw hI ih
  refine Wp.step (fun k=>by rw [fQ35.l0]) ?_
  have hm:wrap64 (s*z)=((z ^ (i+1):Nat):Int):=by
   subst hI
   have:i=0∨i=1∨i=2:=by omega
   rcases z4 hz with rfl | rfl | rfl | rfl <;> rcases this with rfl | rfl | rfl <;> decide+kernel
  simp only [hw.e,hm]
  repeat' (first|(with_reducible first|refine qtB ?_|refine qfB ?_|refine qt ?_|refine qf ?_)|(exact ih _ rfl)|(simp only [decide_eq_true_eq])|(with_reducible refine Wp.ret ?_)|(with_reducible refine ql ?_)|(with_reducible refine Wp.iteB (fun hc=>?_) (fun hc=>?_))|(with_reducible refine Wp.ite (fun hc=>?_) (fun hc=>?_)))
 ·intro s hI
  refine Wp.step (fun k=>by rw [fQ35.l0]) ?_
  repeat' (first|(with_reducible first|refine qtB ?_|refine qfB ?_|refine qt ?_|refine qf ?_)|(simp only [decide_eq_true_eq])|(with_reducible refine Wp.ret ?_)|(with_reducible refine ql ?_)|(with_reducible refine Wp.iteB (fun hc=>?_) (fun hc=>?_))|(with_reducible refine Wp.ite (fun hc=>?_) (fun hc=>?_)))
  simpa using hI
def InR (z:Nat) (t:List Int):Prop:=∀x∈t,0≤x∧x<(z:Int)
def opw (z:Int) (t:List Int) (a b:Int):Int:=rd t (a+z*b)
def Sq (z:Nat) (t:List Int):Prop:=(1≤z∧z≤4)∧t.length=z*z∧InR z t
theorem rd_mem {t:List Int} {i:Int} (h0:0≤i) (h1:i<(t.length:Int)):rd t i∈t:=rdOf_mem (z:=0) h0 h1
theorem opidx {z:Nat} {t:List Int} (h:Sq z t) {a b:Int} (ha:0≤a∧a<z) (hb:0≤b∧b<z):wrap64 (z*b)=z*b∧wrap64 (a+z*b)=a+z*b∧0≤a+z*b∧a+z*b<(t.length:Int):=by
 obtain ⟨hz,hl,_⟩:=h
 rw [hl]
 rcases z4 hz with rfl | rfl | rfl | rfl <;> refine ⟨wrap_id (by omega) (by omega),wrap_id (by omega) (by omega),by omega,by omega⟩
theorem opw_rng {z:Nat} {t:List Int} (h:Sq z t) {a b:Int} (ha:0≤a∧a<z) (hb:0≤b∧b<z):0≤opw z t a b∧opw z t a b<z:=by
 obtain ⟨_,_,h2,h3⟩:=opidx h ha hb
 exact h.2.2 _ (rd_mem h2 h3)
def Indiff (z:Nat) (t:List Int):Prop:=∀a:Nat,a<z→∀b:Nat,b<z→∀c:Nat,c<z→opw z t a b=opw z t b a∧opw z t (opw z t a b) c=opw z t a (opw z t b c)
theorem indiff1_ev {z:Nat} {t:List Int} (h:Sq z t) {a b:Int} (ha:0≤a∧a<z) (hb:0≤b∧b<z):Ev (fun _=>fQ21.f a b t z) (opw z t a b,t,(z:Int)):=by
 obtain ⟨h0,h1,h2,h3⟩:=opidx h ha hb
 refine Wp.ev ?_
 unfold fQ21.f
 simp only [h0,h1]
 repeat' (first|(with_reducible first|refine qtB ?_|refine qfB ?_|refine qt ?_|refine qf ?_)|(simp only [decide_eq_true_eq])|(with_reducible refine Wp.ret ?_)|(with_reducible refine ql ?_)|(with_reducible refine Wp.iteB (fun hc=>?_) (fun hc=>?_))|(with_reducible refine Wp.ite (fun hc=>?_) (fun hc=>?_)))
 rfl
theorem impl_indifferent_ev {z:Nat} {t:List Int} (h:Sq z t):Ev (fun k=>fQ14.f k z t) (B (Indiff z t)):=by
 have hz:z≤1000000000:=by have:=h.1.2;omega
 unfold fQ14.f
 refine (Wp.all (Φ:=fun a=>∀b:Nat,b<z→∀c:Nat,c<z→opw z t a b=opw z t b a∧opw z t (opw z t a b) c=opw z t a (opw z t b c)) (Ψ:=True) z hz (fun k i=>fQ14.l0 k z i z t) ?_ ?_).val (B_congr (and_true _▸Iff.rfl))
 ·intro a P hi hw hT hF
  refine Wp.step (fun k=>by rw [fQ14.l0]) ?_
  refine Wp.itet (by omega) ?_
  refine Wp.allP (Φ:=fun b=>∀c:Nat,c<z→opw z t a b=opw z t b a∧opw z t (opw z t a b) c=opw z t a (opw z t b c)) z hz (fun k i=>fQ14.l1 k a z a z i z t) ?_ ?_ hF
  ·intro b hj hwb hT2 hF2
   refine Wp.step (fun k=>by rw [fQ14.l1]) ?_
   refine Wp.itet (by omega) ?_
   refine Wp.allP (Φ:=fun c=>opw z t a b=opw z t b a∧opw z t (opw z t a b) c=opw z t a (opw z t b c)) z hz (fun k i=>fQ14.l2 k a b z a z b z i z t) ?_ ?_ hF2
   ·intro c hc hwc hT3 hF3
    refine Wp.step (fun k=>by rw [fQ14.l2]) ?_
    have rab:=opw_rng h (a:=a) (b:=b) (by omega) (by omega)
    have rbc:=opw_rng h (a:=b) (b:=c) (by omega) (by omega)
    simp only [hwc.e]
    repeat' (first|(with_reducible first|refine qtB ?_|refine qfB ?_|refine qt ?_|refine qf ?_)|(with_reducible refine Wp.bindE (indiff1_ev h (by omega) (by omega)) ?_)|(exact hT3 (by simp_all))|(exact hF3 (by simp_all))|(simp only [decide_eq_true_eq])|(with_reducible refine Wp.ret ?_)|(with_reducible refine ql ?_)|(with_reducible refine Wp.iteB (fun hc=>?_) (fun hc=>?_))|(with_reducible refine Wp.ite (fun hc=>?_) (fun hc=>?_)))
    all_goals first | exact hT3 (by simp_all) | exact hF3 (by simp_all)
   ·intro hall
    refine Wp.step (fun k=>by rw [fQ14.l2]) ?_
    simp only [hwb.e]
    refine Wp.itef (by omega) (hT2 hall)
  ·intro hall
   refine Wp.step (fun k=>by rw [fQ14.l1]) ?_
   simp only [hw.e]
   refine Wp.itef (by omega) (hT hall)
 ·intro _
  refine Wp.step (fun k=>by rw [fQ14.l0]) ?_
  refine Wp.itef (by omega) (Wp.ret ?_)
  rw [eqB];simp
theorem contains_ev (z:Int) (T:List (List Int)) (t:List Int) (hl:t.length≤1000000000) (hz:1≤z∧z≤4):Ev (fun k=>fQ15.f k t z T) (B (∃i,i<t.length∧¬(0≤rd t i∧rd t i≤z - 1)),z,T):=by
 have hw1:wrap64 (z - 1)=z - 1:=wrap_id (by omega) (by omega)
 have key:Ev (fun k=>fQ7.f k t z T) (fidx (fun i=>¬(0≤rd t i∧rd t i≤z - 1)) t.length 0,z,T):=by
  unfold fQ7.f
  refine Wp.find t.length hl (fun k i=>fQ7.l0 k t t.length i z T) (fun i=>(i,z,T)) ?_ ?_
  ·intro i P hi hw hT hF
   refine Wp.step (fun k=>by rw [fQ7.l0]) ?_
   have hc:Ev (fun _=>fQ29.f (rd t i) z T) (B (¬(0≤rd t i∧rd t i≤z - 1)),z,T):=by
    unfold fQ29.f
    rw [hw1]
    refine ((impl_from_ev _ _ _).bind Ev.ret).val ?_
    rw [not_B]
   simp only [hw.e]
   repeat' (first|(with_reducible first|refine qtB ?_|refine qfB ?_|refine qt ?_|refine qf ?_)|(with_reducible refine Wp.bindE (hc) ?_)|(simp only [decide_eq_true_eq])|(with_reducible refine Wp.ret ?_)|(with_reducible refine ql ?_)|(with_reducible refine Wp.iteB (fun hc=>?_) (fun hc=>?_))|(with_reducible refine Wp.ite (fun hc=>?_) (fun hc=>?_)))
   all_goals first | exact hF (by assumption) | exact hT (by assumption)
  ·refine Wp.step (fun k=>by rw [fQ7.l0]) ?_
   repeat' (first|(with_reducible first|refine qtB ?_|refine qfB ?_|refine qt ?_|refine qf ?_)|(simp only [decide_eq_true_eq])|(with_reducible refine Wp.ret ?_)|(with_reducible refine ql ?_)|(with_reducible refine Wp.iteB (fun hc=>?_) (fun hc=>?_))|(with_reducible refine Wp.ite (fun hc=>?_) (fun hc=>?_)))
   all_goals rfl
 unfold fQ15.f
 refine (key.bind Ev.ret).val ?_
 rw [dec_B,B_congr fidx_ge]
def RowOk (s:List I_Sym) (z:Nat) (T:List (List Int)) (i:Nat):Prop:=(rd_Ls_i64 T i).length=z ^ (rd_I_Sym s i).f1.toNat∧InR z (rd_Ls_i64 T i)∧((rd_I_Sym s i).f2=true→Indiff z (rd_Ls_i64 T i))
def WorldOk (s:List I_Sym) (z:Nat) (T:List (List Int)):Prop:=SigOk s∧(1≤z∧z≤4)∧T.length=s.length∧∀i,i<s.length→RowOk s z T i
def Rows (T:List (List Int)):Prop:=∀x∈T,x.length≤1000000000
theorem rdRow_mem {T:List (List Int)} {i:Int} (h0:0≤i) (h1:i<(T.length:Int)):rd_Ls_i64 T i∈T:=rdOf_mem (z:=[]) h0 h1
theorem inR_rd {z:Nat} {t:List Int}:InR z t↔¬∃i,i<t.length∧¬(0≤rd t i∧rd t i≤(z:Int) - 1):=by
 constructor
 ·rintro h ⟨i,hi,hn⟩
  have:=h _ (rd_mem (t:=t) (i:=i) (by omega) (by omega))
  omega
 ·intro h x hx
  obtain ⟨i,hi,rfl⟩:=List.getElem_of_mem hx
  have e:rd t i=t[i]:=by
   show t.getD i 0=_
   rw [List.getD_eq_getElem?_getD,List.getElem?_eq_getElem hi];rfl
  rcases Classical.em (0≤rd t i∧rd t i≤(z:Int) - 1) with h1 | h1
  ·rw [e] at h1;omega
  ·exact absurd ⟨i,hi,h1⟩ h
theorem impl_WorldOk_ev (s:List I_Sym) (z:Int) (T:List (List Int)) (hs:Names s) (hT:Rows T):Ev (fun k=>fQ33.f k s z T) (B (0≤z∧WorldOk s z.toNat T)):=by
 refine Wp.ev ?_
 unfold fQ33.f
 repeat' (first|(with_reducible first|refine qtB ?_|refine qfB ?_|refine qt ?_|refine qf ?_)|(with_reducible refine Wp.bindE (impl_SigOk_ev s hs) ?_)|(with_reducible refine Wp.bindE (impl_from_ev _ _ _) ?_)|(simp only [decide_eq_true_eq])|(with_reducible refine Wp.ret ?_)|(with_reducible refine ql ?_)|(with_reducible refine Wp.iteB (fun hc=>?_) (fun hc=>?_))|(with_reducible refine Wp.ite (fun hc=>?_) (fun hc=>?_)))
 ·rename_i h1 h2
  obtain ⟨z,rfl⟩:∃n:Nat,z=n:=⟨z.toNat,by omega⟩
  refine ((Wp.all (Φ:=fun i=>RowOk s z T i) (Ψ:=True) s.length hs.1 (fun k i=>fQ33.l0 k s s.length i z T) ?_ ?_).val ?_).wp rfl
  ·intro i P hi hw hT' hF
   refine Wp.step (fun k=>by rw [fQ33.l0]) ?_
   have hrow:=hT _ (rdRow_mem (T:=T) (i:=i) (by omega) (by omega))
   have sig:=h1.1 i hi
   have sq:(rd_Ls_i64 T i).length=z ^ (rd_I_Sym s i).f1.toNat→InR z (rd_Ls_i64 T i)→(rd_I_Sym s i).f2=true→Sq z (rd_Ls_i64 T i):=by
    intro a b c
    refine ⟨by omega,?_,b⟩
    rw [a,sig.2.2.2 c]
    show z ^ 2=z*z
    rw [Nat.pow_two]
   simp only [hw.e]
   have sig3:=sig.2.2.1
   repeat' (first|(with_reducible first|refine qtB ?_|refine qfB ?_|refine qt ?_|refine qf ?_)|(with_reducible refine Wp.bindE (impl_placesOf_ev z (by omega) _ sig3) ?_)|(with_reducible refine Wp.bindE (contains_ev z T _ hrow (by omega)) ?_)|(with_reducible refine Wp.bindE (impl_indifferent_ev (sq (by omega) (inR_rd.2 (by assumption)) (by assumption))) ?_)|(exact hT' ⟨by omega,inR_rd.2 (by assumption),by simp_all⟩)|(exact hT' ⟨by omega,inR_rd.2 (by assumption),fun _=>by assumption⟩)|(simp only [decide_eq_true_eq])|(with_reducible refine Wp.ret ?_)|(with_reducible refine ql ?_)|(with_reducible refine Wp.iteB (fun hc=>?_) (fun hc=>?_))|(with_reducible refine Wp.ite (fun hc=>?_) (fun hc=>?_)))
   all_goals first | exact hT' ⟨by omega,inR_rd.2 (by assumption),by simp_all⟩ | exact hT' ⟨by omega,inR_rd.2 (by assumption),fun _=>by assumption⟩ | skip
   all_goals refine hF ?_
   ·intro h;have:=inR_rd.1 h.2.1;contradiction
   ·intro h;exact absurd (h.2.2 (by assumption)) (by assumption)
   ·intro h;have:=h.1;omega
  ·intro _
   refine Wp.step (fun k=>by rw [fQ33.l0]) ?_
   refine Wp.itef (by omega) (Wp.ret ?_)
   rw [eqB];simp
  ·refine B_congr ⟨fun h=>⟨by omega,h1,by omega,by omega,h.1⟩,fun h=>⟨h.2.2.2.2,trivial⟩⟩
 all_goals (rw [eqB];simp only [Bool.false_eq_true,false_iff];rintro ⟨_,h1,h2,h3,h4⟩;first | omega | contradiction)
theorem impl_asWorld_ev (T:List (List Int)):Ev (fun _=>fQ63.f T) ((2:Int),T):=Ev.ret
theorem impl_ModelOk_ev (s:List I_Sym) (T:List (List Int)) (hs:Names s) (hT:Rows T):Ev (fun k=>fQ60.f k s T) (B (WorldOk s 2 T)):=by
 unfold fQ60.f
 refine ((impl_asWorld_ev T).bind ((impl_WorldOk_ev s 2 T hs hT).bind Ev.ret)).val (B_congr ?_)
 exact ⟨fun h=>h.2,fun h=>⟨by decide,h⟩⟩
theorem ord_int (a b:Int):compare a b=if a<b then .lt else if a=b then .eq else .gt:=by
 rcases Int.lt_trichotomy a b with h | h | h
 ·rw [if_pos h];exact Int.compare_eq_lt.2 h
 ·rw [if_neg (by omega),if_pos h];exact Int.compare_eq_eq.2 h
 ·rw [if_neg (by omega),if_neg (by omega)];exact Int.compare_eq_gt.2 h
theorem ord_nat (a b:Nat):compare a b=compare (a:Int) (b:Int):=by
 rw [ord_int]
 rcases Nat.lt_trichotomy a b with h | h | h
 ·rw [if_pos (by omega)];exact Nat.compare_eq_lt.2 h
 ·rw [if_neg (by omega),if_pos (by omega)];exact Nat.compare_eq_eq.2 h
 ·rw [if_neg (by omega),if_neg (by omega)];exact Nat.compare_eq_gt.2 h
theorem spec_TermSame_ev (a:I_Term):sz a≤1000000000→∀b:I_Term,Ev (fun k=>fQ25.f k a.f0 a.f1 a.f2 b.f0 b.f1 b.f2) (B (a=b)):=by
 induction a using tInd with
 | h a ih=>
 intro hs b
 have hlen:=sz_kids a
 refine Wp.ev ?_
 refine Wp.step (fun k=>by rw [fQ25.f]) ?_
 have eqt:a.f0=b.f0→a.f1=b.f1→(a=b↔a.f2=b.f2):=by
  intro h0 h1
  constructor
  ·rintro rfl;rfl
  ·intro h2;cases a;cases b;simp_all
 repeat' (first|(with_reducible first|refine qtB ?_|refine qfB ?_|refine qt ?_|refine qf ?_)|(simp only [decide_eq_true_eq])|(with_reducible refine Wp.ret ?_)|(with_reducible refine ql ?_)|(with_reducible refine Wp.iteB (fun hc=>?_) (fun hc=>?_))|(with_reducible refine Wp.ite (fun hc=>?_) (fun hc=>?_)))
 ·have hll:a.f2.length=b.f2.length:=by omega
  have e:=eqt (by assumption) (by assumption)
  refine Wp.both a.f2 zI_Term b.f2 zI_Term hll (by omega) (fun k i=>fQ25.l0 k i a.f0 a.f1 a.f2 b.f0 b.f1 b.f2) (fun p p'=>p=p') ?_ ?_ rfl
  ·intro p x q p' x' q' e1 e2 hp m m' hn hr hr' hw hI ih2
   refine Wp.step (fun k=>by rw [fQ25.l0]) ?_
   have ihx:=ih x m (by have:=sz_kid m;omega) x'
   have r1:rd_I_Term a.f2 (p.length:Int)=x:=hr
   have r2:rd_I_Term b.f2 (p.length:Int)=x':=hr'
   simp only [hw.e,r1,r2]
   repeat' (first|(with_reducible first|refine qtB ?_|refine qfB ?_|refine qt ?_|refine qf ?_)|(with_reducible refine Wp.bindE (ihx) ?_)|(exact ih2 (by rw [hI,hc]))|(simp only [decide_eq_true_eq])|(with_reducible refine Wp.ret ?_)|(with_reducible refine ql ?_)|(with_reducible refine Wp.iteB (fun hc=>?_) (fun hc=>?_))|(with_reducible refine Wp.ite (fun hc=>?_) (fun hc=>?_)))
   rw [eqB,e,e1,e2,hI]
   simp [hc]
  ·intro hI
   refine Wp.step (fun k=>by rw [fQ25.l0]) ?_
   repeat' (first|(with_reducible first|refine qtB ?_|refine qfB ?_|refine qt ?_|refine qf ?_)|(simp only [decide_eq_true_eq])|(with_reducible refine Wp.ret ?_)|(with_reducible refine ql ?_)|(with_reducible refine Wp.iteB (fun hc=>?_) (fun hc=>?_))|(with_reducible refine Wp.ite (fun hc=>?_) (fun hc=>?_)))
   rw [eqB,e];exact ⟨fun _=>hI,fun _=>rfl⟩
 all_goals (rw [eqB];simp only [Bool.false_eq_true,false_iff];rintro rfl;exact absurd rfl hc)
theorem spec_Before_ev (a:I_Term):sz a≤1000000000→∀b:I_Term,Ev (fun k=>fQ28.f k a.f0 a.f1 a.f2 b.f0 b.f1 b.f2) (bef a b):=by
 induction a using tInd with
 | h a ih=>
 intro hs b
 have hlen:=sz_kids a
 refine Wp.ev ?_
 refine Wp.step (fun k=>by rw [fQ28.f]) ?_
 unfold bef
 rw [cmpT_eq,ord_nat,ord_int,ord_int,ord_int]
 repeat' (first|(with_reducible first|refine qtB ?_|refine qfB ?_|refine qt ?_|refine qf ?_)|(simp only [decide_eq_true_eq])|(with_reducible refine Wp.ret ?_)|(with_reducible refine ql ?_)|(with_reducible refine Wp.iteB (fun hc=>?_) (fun hc=>?_))|(with_reducible refine Wp.ite (fun hc=>?_) (fun hc=>?_)))
 ·have hll:a.f2.length=b.f2.length:=by omega
  rw [if_neg (by omega),if_pos (by omega),if_neg (by omega),if_pos (by omega),if_neg (by omega),if_pos (by omega)]
  refine Wp.both a.f2 zI_Term b.f2 zI_Term hll (by omega) (fun k i=>fQ28.l0 k i a.f0 a.f1 a.f2 b.f0 b.f1 b.f2) (fun p p'=>p=p') ?_ ?_ rfl
  ·intro p x q p' x' q' e1 e2 hp m m' hn hr hr' hw hI ih2
   refine Wp.step (fun k=>by rw [fQ28.l0]) ?_
   have hx:=sz_kid m
   have ihx:=ih x m (by omega) x'
   have r1:rd_I_Term a.f2 (p.length:Int)=x:=hr
   have r2:rd_I_Term b.f2 (p.length:Int)=x':=hr'
   simp only [hw.e,r1,r2]
   repeat' (first|(with_reducible first|refine qtB ?_|refine qfB ?_|refine qt ?_|refine qf ?_)|(with_reducible refine Wp.bindE (spec_TermSame_ev x (by omega) x') ?_)|(with_reducible refine Wp.bindE (ihx) ?_)|(exact ih2 (by rw [hI,hc]))|(simp only [decide_eq_true_eq])|(with_reducible refine Wp.ret ?_)|(with_reducible refine ql ?_)|(with_reducible refine Wp.iteB (fun hc=>?_) (fun hc=>?_))|(with_reducible refine Wp.ite (fun hc=>?_) (fun hc=>?_)))
   have hne:=hc
   rw [e1,e2,hI,cmpTs_pre,cmpTs]
   unfold bef
   have:cmpT x x'≠.eq:=fun h=>hne (cmpT_same.1 h)
   cases h:cmpT x x'
   ·rfl
   ·exact absurd h this
   ·rfl
  ·intro hI
   refine Wp.step (fun k=>by rw [fQ28.l0]) ?_
   repeat' (first|(with_reducible first|refine qtB ?_|refine qfB ?_|refine qt ?_|refine qf ?_)|(simp only [decide_eq_true_eq])|(with_reducible refine Wp.ret ?_)|(with_reducible refine ql ?_)|(with_reducible refine Wp.iteB (fun hc=>?_) (fun hc=>?_))|(with_reducible refine Wp.ite (fun hc=>?_) (fun hc=>?_)))
   rw [hI]
   have:=cmpTs_pre b.f2 [] []
   rw [List.append_nil,cmpTs] at this
   rw [this];rfl
 ·rw [if_neg (by omega),if_pos (by omega),if_neg (by omega),if_pos (by omega)]
  by_cases h:(a.f2.length:Int)<(b.f2.length:Int)
  ·rw [if_pos h];simp [h,Ordering.then]
  ·rw [if_neg h,if_neg hc];simp [h,Ordering.then]
 ·rw [if_neg (by omega),if_pos (by omega)]
  by_cases h:a.f1<b.f1
  ·rw [if_pos h];simp [h,Ordering.then]
  ·rw [if_neg h,if_neg hc];simp [h,Ordering.then]
 ·by_cases h:a.f0<b.f0
  ·rw [if_pos h];simp [h,Ordering.then]
  ·rw [if_neg h,if_neg hc];simp [h,Ordering.then]
def Blind (s:List I_Sym) (f:Int):Prop:=0≤f∧f<(s.length:Int)∧(rd_I_Sym s f).f2=true
theorem spec_Blind_ev (s:List I_Sym) (h:Names s) (f:Int):Ev (fun _=>fQ61.f s f) (B (Blind s f)):=by
 refine Wp.ev ?_
 unfold fQ61.f
 have h1:=h.1
 simp only [wrap_id (x:=(s.length:Int) - 1) (by omega) (by omega)]
 repeat' (first|(with_reducible first|refine qtB ?_|refine qfB ?_|refine qt ?_|refine qf ?_)|(with_reducible refine Wp.bindE (spec_l1In_ev _ _ _) ?_)|(simp only [decide_eq_true_eq])|(with_reducible refine Wp.ret ?_)|(with_reducible refine ql ?_)|(with_reducible refine Wp.iteB (fun hc=>?_) (fun hc=>?_))|(with_reducible refine Wp.ite (fun hc=>?_) (fun hc=>?_)))
 all_goals (rw [eqB];unfold Blind;simp_all;try omega)
def putT (t:I_Term):List I_Term→List I_Term
 | []=>[t]
 | a::l=>if bef t a then t::a::l else a::putT t l
theorem putT_at (t:I_Term) (p l:List I_Term) (h:∀x∈p,bef t x=false):putT t (p++l)=p++putT t l:=by
 induction p with
 | nil=>rfl
 | cons a p ih=>
  rw [List.cons_append,putT,h a (by simp),if_neg (by decide),ih (fun x hx=>h x (by simp [hx]))];rfl
theorem szs_put (t:I_Term) (l:List I_Term):szs (putT t l)=sz t+szs l:=by
 induction l with
 | nil=>simp [putT,szs]
 | cons a l ih=>
  rw [putT]
  split
  ·simp [szs]
  ·simp only [szs,ih];omega
theorem takeAt {α:Type} (p q:List α):(p++q).take p.length=p:=by simp
theorem dropAt {α:Type} (p q:List α):(p++q).drop p.length=q:=by simp
theorem toNatCast (n:Nat):(n:Int).toNat=n:=rfl
theorem spec_l4Put_v2_ev (l:List I_Term) (t:I_Term) (h:szs l+sz t≤1000000000):Ev (fun k=>fQ26.f k l t.f0 t.f1 t.f2) (putT t l):=by
 have hl:=szs_len l
 unfold fQ26.f
 refine Wp.ev (Wp.each0 l zI_Term (by omega) (fun k i=>fQ26.l0 k l i t.f0 t.f1 t.f2) (fun p=>∀x∈p,bef t x=false) ?_ ?_ (by simp))
 ·intro p x q e m hn hr hw hI ih
  refine Wp.step (fun k=>by rw [fQ26.l0]) ?_
  have r1:rd_I_Term l (p.length:Int)=x:=hr
  have ht:l.take p.length=p:=by rw [e];exact takeAt p _
  have hd:l.drop p.length=x::q:=by rw [e];exact dropAt p _
  simp only [hw.e,r1,tEta,toNatCast,ht,hd]
  have ih2:bef t x=false→_:=fun h0=>ih (fun y hy=>(List.mem_append.1 hy).elim (hI y) (fun h=>by rw [List.mem_singleton.1 h];exact h0))
  repeat' (first|(with_reducible first|refine qtB ?_|refine qfB ?_|refine qt ?_|refine qf ?_)|(with_reducible refine Wp.bindE (spec_Before_ev t (by omega) x) ?_)|(exact ih2 (Bool.not_eq_true _▸hc))|(simp only [decide_eq_true_eq])|(with_reducible refine Wp.ret ?_)|(with_reducible refine ql ?_)|(with_reducible refine Wp.iteB (fun hc=>?_) (fun hc=>?_))|(with_reducible refine Wp.ite (fun hc=>?_) (fun hc=>?_)))
  rw [e,putT_at t p _ hI,putT,if_pos (by assumption)]
  simp
 ·intro hI
  refine Wp.step (fun k=>by rw [fQ26.l0]) ?_
  have ht:l.take l.length=l:=List.take_length
  have hd:l.drop l.length=[]:=List.drop_length
  simp only [tEta,toNatCast,ht,hd]
  repeat' (first|(with_reducible first|refine qtB ?_|refine qfB ?_|refine qt ?_|refine qf ?_)|(simp only [decide_eq_true_eq])|(with_reducible refine Wp.ret ?_)|(with_reducible refine ql ?_)|(with_reducible refine Wp.iteB (fun hc=>?_) (fun hc=>?_))|(with_reducible refine Wp.ite (fun hc=>?_) (fun hc=>?_)))
  have:=putT_at t l [] hI
  rw [List.append_nil] at this
  rw [this,putT]
  simp
noncomputable def addK (s:List I_Sym) (f:Int) (acc:List I_Term) (k:I_Term):List I_Term:=
 if B (Blind s f)=true then (if k.f0=f then k.f2.foldl (fun a x=>putT x a) acc else putT k acc) else acc++[k]
mutual
noncomputable def norm (s:List I_Sym):I_Term→I_Term
 | ⟨f,v,l⟩=>⟨f,v,normL s f l []⟩
noncomputable def normL (s:List I_Sym) (f:Int):List I_Term→List I_Term→List I_Term
 | [],acc=>acc
 | t::l,acc=>normL s f l (addK s f acc (norm s t))
end
theorem norm_f0 (s:List I_Sym) (t:I_Term):(norm s t).f0=t.f0:=by cases t;rw [norm]
theorem norm_f1 (s:List I_Sym) (t:I_Term):(norm s t).f1=t.f1:=by cases t;rw [norm]
theorem norm_f2 (s:List I_Sym) (t:I_Term):(norm s t).f2=normL s t.f0 t.f2 []:=by cases t;rw [norm]
theorem normL_app (s:List I_Sym) (f:Int) (p:List I_Term):∀(q acc:List I_Term),normL s f (p++q) acc=normL s f q (normL s f p acc):=by
 induction p with
 | nil=>intro q acc;rw [List.nil_append,normL]
 | cons a p ih=>intro q acc;rw [List.cons_append,normL,normL,ih]
theorem szs_foldput (k:List I_Term):∀acc,szs (k.foldl (fun a x=>putT x a) acc)=szs acc+szs k:=by
 induction k with
 | nil=>intro acc;simp [szs]
 | cons a k ih=>intro acc;rw [List.foldl_cons,ih,szs_put,szs];omega
theorem szs_addK (s:List I_Sym) (f:Int) (acc:List I_Term) (k:I_Term):szs (addK s f acc k)≤szs acc+sz k:=by
 unfold addK
 have:=sz_eq k
 split
 ·split
  ·rw [szs_foldput];omega
  ·rw [szs_put];omega
 ·rw [szs_append,szs,szs];omega
theorem sz_norm (s:List I_Sym) (t:I_Term):sz (norm s t)≤sz t:=by
 induction t using tInd with
 | h t ih=>
  have:∀l acc,(∀x∈l,sz (norm s x)≤sz x)→szs (normL s t.f0 l acc)≤szs acc+szs l:=by
   intro l
   induction l with
   | nil=>intro acc _;rw [normL,szs];omega
   | cons a l ihl=>
    intro acc h
    have h1:=ihl (addK s t.f0 acc (norm s a)) (fun x hx=>h x (by simp [hx]))
    have h2:=szs_addK s t.f0 acc (norm s a)
    have h3:=h a (by simp)
    rw [normL,szs];omega
  have h:=this t.f2 [] ih
  rw [sz_eq,norm_f2,sz_eq t]
  simp only [szs] at h
  omega
theorem spec_Norm_ev (s:List I_Sym) (hs:Names s) (t:I_Term):sz t≤1000000000→Ev (fun k=>spec_Norm.f k s t.f0 t.f1 t.f2) ((norm s t).f0,(norm s t).f1,(norm s t).f2):=by
 induction t using tInd with
 | h t ih=>
 intro ht
 have hlen:=sz_kids t
 refine Wp.ev ?_
 refine Wp.step (fun k=>by rw [spec_Norm.f]) ?_
 refine Wp.each1 t.f2 zI_Term (by omega) (fun k i b=>spec_Norm.l0 k s i t.f0 t.f1 t.f2 0 0 t.f0 t.f1 b) (fun p b=>b=normL s t.f0 p []∧szs b≤szs p) ?_ ?_ [] ⟨by rw [normL],Nat.le_refl _⟩
 ·intro p x q b e m hn hr hw hI jh
  obtain ⟨hI1,hI2⟩:=hI
  refine Wp.step (fun k=>by rw [spec_Norm.l0]) ?_
  have r1:rd_I_Term t.f2 (p.length:Int)=x:=hr
  have hx:=sz_kid m
  have ihx:=ih x m (by omega)
  have hnx:=sz_norm s x
  have hsz:szs t.f2=szs p+(sz x+szs q):=by rw [e,szs_append,szs]
  have h0:=sz_eq t
  have e2:∀b',b'=addK s t.f0 b (norm s x)→b'=normL s t.f0 (p++[x]) []∧szs b'≤szs (p++[x]):=by
   rintro b' rfl
   have:=szs_addK s t.f0 b (norm s x)
   refine ⟨?_,by rw [szs_append,szs,szs];omega⟩
   rw [normL_app,←hI1,normL,normL]
  have hbl:=szs_len b
  simp only [hw.e,r1]
  repeat' (first|(with_reducible first|refine qtB ?_|refine qfB ?_|refine qt ?_|refine qf ?_)|(with_reducible refine Wp.bindE (ihx) ?_)|(with_reducible refine Wp.bindE (spec_Blind_ev s hs _) ?_)|(with_reducible refine Wp.bindE (spec_l4Put_v2_ev _ _ (by omega)) ?_)|(simp only [decide_eq_true_eq])|(with_reducible refine Wp.ret ?_)|(with_reducible refine ql ?_)|(with_reducible refine Wp.iteB (fun hc=>?_) (fun hc=>?_))|(with_reducible refine Wp.ite (fun hc=>?_) (fun hc=>?_)))
  ·rename_i hb
   have hk:=hc
   refine Wp.each1 (norm s x).f2 zI_Term (by have:=sz_kids (norm s x);omega) (fun k i b=>spec_Norm.l1 k s p.length i t.f0 t.f1 t.f2 0 0 t.f0 t.f1 b (norm s x).f0 (norm s x).f1 (norm s x).f2) (fun p' b'=>b'=p'.foldl (fun a x=>putT x a) b) ?_ ?_ b rfl
   ·intro p' x' q' b' e' m' hn' hr' hw' hI' jh'
    refine Wp.step (fun k=>by rw [spec_Norm.l1]) ?_
    have r2:rd_I_Term (norm s x).f2 (p'.length:Int)=x':=hr'
    have h2:szs (norm s x).f2=szs p'+(sz x'+szs q'):=by rw [e',szs_append,szs]
    have h3:=sz_eq (norm s x)
    have h4:=szs_foldput p' b
    simp only [hw'.e,r2]
    repeat' (first|(with_reducible first|refine qtB ?_|refine qfB ?_|refine qt ?_|refine qf ?_)|(with_reducible refine Wp.bindE (spec_l4Put_v2_ev _ _ (by rw [hI',h4];omega)) ?_)|(exact jh' _ (by rw [List.foldl_append,←hI'];rfl))|(simp only [decide_eq_true_eq])|(with_reducible refine Wp.ret ?_)|(with_reducible refine ql ?_)|(with_reducible refine Wp.iteB (fun hc=>?_) (fun hc=>?_))|(with_reducible refine Wp.ite (fun hc=>?_) (fun hc=>?_)))
   ·intro b' hI'
    refine Wp.step (fun k=>by rw [spec_Norm.l1]) ?_
    simp only [hw.e]
    repeat' (first|(with_reducible first|refine qtB ?_|refine qfB ?_|refine qt ?_|refine qf ?_)|(exact jh _ (e2 _ (by rw [addK,if_pos (B_iff.2 hb),if_pos hk];exact hI')))|(simp only [decide_eq_true_eq])|(with_reducible refine Wp.ret ?_)|(with_reducible refine ql ?_)|(with_reducible refine Wp.iteB (fun hc=>?_) (fun hc=>?_))|(with_reducible refine Wp.ite (fun hc=>?_) (fun hc=>?_)))
  ·rename_i hb
   have hk:=hc
   exact jh _ (e2 _ (by rw [addK,if_pos (B_iff.2 hb),if_neg hk]))
  ·exact jh _ (e2 _ (by rw [addK,if_neg (fun h=>hc (B_iff.1 h)),tEta]))
 ·intro b hI
  refine Wp.step (fun k=>by rw [spec_Norm.l0]) ?_
  repeat' (first|(with_reducible first|refine qtB ?_|refine qfB ?_|refine qt ?_|refine qf ?_)|(simp only [decide_eq_true_eq])|(with_reducible refine Wp.ret ?_)|(with_reducible refine ql ?_)|(with_reducible refine Wp.iteB (fun hc=>?_) (fun hc=>?_))|(with_reducible refine Wp.ite (fun hc=>?_) (fun hc=>?_)))
  rw [norm_f0,norm_f1,norm_f2,hI.1]
theorem impl_isVar_ev (a b:Int) (l:List I_Term):Ev (fun _=>fQ57.f a b l) (B (a= -1)):=by
 unfold fQ57.f
 exact Ev.ret.val dec_B
theorem impl_compare_ev (a:I_Term):sz a≤1000000000→∀b:I_Term,Ev (fun k=>fQ19.f k a.f0 a.f1 a.f2 b.f0 b.f1 b.f2) (ordI (cmpT a b)):=by
 induction a using tInd with
 | h a ih=>
 intro hs b
 have hlen:=sz_kids a
 refine Wp.ev ?_
 refine Wp.step (fun k=>by rw [fQ19.f]) ?_
 rw [cmpT_eq,ord_nat,ord_int,ord_int,ord_int]
 have w0:wrap64 (0+1)=1:=by decide+kernel
 have w1:wrap64 (1+1)=2:=by decide+kernel
 have w2:wrap64 (2+1)=3:=by decide+kernel
 have r0:∀x y z:A2_i64,rd_A2_i64 [x,y,z] 0=x:=fun _ _ _=>rfl
 have r1:∀x y z:A2_i64,rd_A2_i64 [x,y,z] 1=y:=fun _ _ _=>rfl
 have r2:∀x y z:A2_i64,rd_A2_i64 [x,y,z] 2=z:=fun _ _ _=>rfl
 have l3:∀x y z:A2_i64,(([x,y,z]:List A2_i64).length:Int)=3:=fun _ _ _=>rfl
 rw [l3]
 refine Wp.step (fun k=>by rw [fQ19.l0]) ?_
 simp only [r0,w0,l3]
 repeat' (first|(with_reducible first|refine qtB ?_|refine qfB ?_|refine qt ?_|refine qf ?_)|(simp only [decide_eq_true_eq])|(with_reducible refine Wp.ret ?_)|(with_reducible refine ql ?_)|(with_reducible refine Wp.iteB (fun hc=>?_) (fun hc=>?_))|(with_reducible refine Wp.ite (fun hc=>?_) (fun hc=>?_)))
 ·rw [if_pos (by assumption)];rfl
 ·rw [if_neg (by omega),if_neg (by omega)];rfl
 have e0:a.f0=b.f0:=by omega
 rw [if_neg (by omega),if_pos e0]
 refine Wp.step (fun k=>by rw [fQ19.l0]) ?_
 simp only [r1,w1,l3]
 repeat' (first|(with_reducible first|refine qtB ?_|refine qfB ?_|refine qt ?_|refine qf ?_)|(simp only [decide_eq_true_eq])|(with_reducible refine Wp.ret ?_)|(with_reducible refine ql ?_)|(with_reducible refine Wp.iteB (fun hc=>?_) (fun hc=>?_))|(with_reducible refine Wp.ite (fun hc=>?_) (fun hc=>?_)))
 ·rw [if_pos (by assumption)];rfl
 ·rw [if_neg (by omega),if_neg (by omega)];rfl
 have e1:a.f1=b.f1:=by omega
 rw [if_neg (by omega),if_pos e1]
 refine Wp.step (fun k=>by rw [fQ19.l0]) ?_
 simp only [r2,w2,l3]
 repeat' (first|(with_reducible first|refine qtB ?_|refine qfB ?_|refine qt ?_|refine qf ?_)|(simp only [decide_eq_true_eq])|(with_reducible refine Wp.ret ?_)|(with_reducible refine ql ?_)|(with_reducible refine Wp.iteB (fun hc=>?_) (fun hc=>?_))|(with_reducible refine Wp.ite (fun hc=>?_) (fun hc=>?_)))
 ·rw [if_pos (by assumption)];rfl
 ·rw [if_neg (by omega),if_neg (by omega)];rfl
 have hll:a.f2.length=b.f2.length:=by omega
 rw [if_neg (by omega),if_pos (by omega)]
 refine Wp.step (fun k=>by rw [fQ19.l0]) ?_
 refine Wp.itef (by decide) ?_
 refine Wp.both a.f2 zI_Term b.f2 zI_Term hll (by omega) (fun k i=>fQ19.l1 k a.f2.length i a.f0 a.f1 a.f2 b.f0 b.f1 b.f2) (fun p p'=>p=p') ?_ ?_ rfl
 ·intro p x q p' x' q' e1 e2 hp m m' hn hr hr' hw hI ih2
  refine Wp.step (fun k=>by rw [fQ19.l1]) ?_
  have ihx:=ih x m (by have:=sz_kid m;omega) x'
  have r1:rd_I_Term a.f2 (p.length:Int)=x:=hr
  have r2:rd_I_Term b.f2 (p.length:Int)=x':=hr'
  simp only [hw.e,r1,r2]
  repeat' (first|(with_reducible first|refine qtB ?_|refine qfB ?_|refine qt ?_|refine qf ?_)|(with_reducible refine Wp.bindE (ihx) ?_)|(simp only [decide_eq_true_eq])|(with_reducible refine Wp.ret ?_)|(with_reducible refine ql ?_)|(with_reducible refine Wp.iteB (fun hc=>?_) (fun hc=>?_))|(with_reducible refine Wp.ite (fun hc=>?_) (fun hc=>?_)))
  ·have:cmpT x x'=.eq:=by cases h:cmpT x x' <;> rw [h] at hc <;> first | rfl | exact absurd hc (by decide)
   exact ih2 (by rw [hI,cmpT_same.1 this])
  ·rw [e1,e2,hI,cmpTs_pre,cmpTs]
   cases h:cmpT x x' <;> rw [h] at hc <;> first | rfl | exact absurd rfl hc
 ·intro hI
  refine Wp.step (fun k=>by rw [fQ19.l1]) ?_
  repeat' (first|(with_reducible first|refine qtB ?_|refine qfB ?_|refine qt ?_|refine qf ?_)|(simp only [decide_eq_true_eq])|(with_reducible refine Wp.ret ?_)|(with_reducible refine ql ?_)|(with_reducible refine Wp.iteB (fun hc=>?_) (fun hc=>?_))|(with_reducible refine Wp.ite (fun hc=>?_) (fun hc=>?_)))
  have:=cmpTs_pre b.f2 [] []
  rw [List.append_nil,cmpTs] at this
  rw [hI,this];rfl
theorem ordI_lt (o:Ordering):decide (ordI o<0)=(o==.lt):=by cases o <;> rfl
theorem impl_Before_ev (a b:I_Term) (h:sz a≤1000000000):Ev (fun k=>fQ68.f k a.f0 a.f1 a.f2 b.f0 b.f1 b.f2) (bef a b):=by
 unfold fQ68.f
 exact ((impl_compare_ev a h b).bind Ev.ret).val (ordI_lt _)
theorem impl_Parts_ev (t:I_Term) (h:sz t≤1000000000):Ev (fun k=>fQ73.f k t.f0 t.f1 t.f2) (sz t:Int):=by
 have key:∀t:I_Term,∀n:Nat,n+sz t≤1000000000→Ev (fun k=>fQ12.f k t.f0 t.f1 t.f2 n) ((n+sz t:Nat):Int):=by
  intro t
  induction t using tInd with
  | h t ih=>
  intro n h
  have hlen:=sz_kids t
  have hsz:=sz_eq t
  refine Wp.ev ?_
  refine Wp.step (fun k=>by rw [fQ12.f]) ?_
  simp only [fQ39.f,Option.bind_some,wrap_id (x:=(n:Int)+1) (by omega) (by omega)]
  refine Wp.each1 t.f2 zI_Term (by omega) (fun k i a=>fQ12.l0 k t.f2 t.f2.length i a) (fun p a=>a=((n+1+szs p:Nat):Int)) ?_ ?_ _ (by simp [szs])
  ·intro p x q a e m hn hr hw hI jh
   refine Wp.step (fun k=>by rw [fQ12.l0]) ?_
   have r1:rd_I_Term t.f2 (p.length:Int)=x:=hr
   have h2:szs t.f2=szs p+(sz x+szs q):=by rw [e,szs_append,szs]
   subst hI
   simp only [hw.e,r1]
   repeat' (first|(with_reducible first|refine qtB ?_|refine qfB ?_|refine qt ?_|refine qf ?_)|(with_reducible refine Wp.bindE (ih x m _ (by omega)) ?_)|(exact jh _ (by rw [szs_append,szs,szs];omega))|(simp only [decide_eq_true_eq])|(with_reducible refine Wp.ret ?_)|(with_reducible refine ql ?_)|(with_reducible refine Wp.iteB (fun hc=>?_) (fun hc=>?_))|(with_reducible refine Wp.ite (fun hc=>?_) (fun hc=>?_)))
  ·intro a hI
   refine Wp.step (fun k=>by rw [fQ12.l0]) ?_
   repeat' (first|(with_reducible first|refine qtB ?_|refine qfB ?_|refine qt ?_|refine qf ?_)|(simp only [decide_eq_true_eq])|(with_reducible refine Wp.ret ?_)|(with_reducible refine ql ?_)|(with_reducible refine Wp.iteB (fun hc=>?_) (fun hc=>?_))|(with_reducible refine Wp.ite (fun hc=>?_) (fun hc=>?_)))
   rw [hI];omega
 unfold fQ73.f
 have:=key t 0 (by omega)
 rw [Nat.zero_add] at this
 exact this.bind Ev.ret
def KidOk (s:List I_Sym) (f:Int) (l:List I_Term) (i:Nat):Prop:=(rd_I_Sym s f).f2=true→(rd_I_Term l i).f0≠f∧(0<i→bef (rd_I_Term l i) (rd_I_Term l ((i:Int) - 1))=false)
def RowT (s:List I_Sym) (t:I_Term):Prop:=(t.f0= -1∧(0≤t.f1∧t.f1≤99)∧t.f2.length=0)∨(t.f0≠-1∧(0≤t.f0∧t.f0<(s.length:Int))∧t.f1=0∧((rd_I_Sym s t.f0).f2=false→(t.f2.length:Int)=(rd_I_Sym s t.f0).f1)∧((rd_I_Sym s t.f0).f2=true→2≤t.f2.length)∧∀i,i<t.f2.length→KidOk s t.f0 t.f2 i)
inductive FormOk (s:List I_Sym):I_Term→Prop
 | mk (t:I_Term):RowT s t→(∀x∈t.f2,FormOk s x)→FormOk s t
theorem FormOk.row {s:List I_Sym} {t:I_Term} (h:FormOk s t):RowT s t:=by cases h;assumption
theorem FormOk.kid {s:List I_Sym} {t:I_Term} (h:FormOk s t):∀x∈t.f2,FormOk s x:=by cases h;assumption
theorem rdTerm_mem {l:List I_Term} {i:Int} (h0:0≤i) (h1:i<(l.length:Int)):rd_I_Term l i∈l:=rdOf_mem (z:=zI_Term) h0 h1
theorem rdTerm_all {l:List I_Term} {Q:I_Term→Prop} (h:∀i:Nat,i<l.length→Q (rd_I_Term l i)):∀x∈l,Q x:=by
 intro x hx
 obtain ⟨i,hi,rfl⟩:=List.getElem_of_mem hx
 have e:rd_I_Term l i=l[i]:=by
  show l.getD i zI_Term=_
  rw [List.getD_eq_getElem?_getD,List.getElem?_eq_getElem hi];rfl
 exact e▸h i hi
theorem impl_isSym_ev (s:List I_Sym) (hs:Names s) (f:Int):Ev (fun _=>fQ56.f s f) (B (0≤f∧f<(s.length:Int))):=by
 have h1:=hs.1
 unfold fQ56.f
 rw [wrap_id (x:=(s.length:Int) - 1) (by omega) (by omega)]
 exact ((impl_from_ev _ _ _).bind Ev.ret).val (B_congr (by omega))
theorem formOk_iff {s:List I_Sym} {t:I_Term} (h:t.f0≠-1) (h1:0≤t.f0∧t.f0<(s.length:Int)) (h2:t.f1=0) (h3:(rd_I_Sym s t.f0).f2=false→(t.f2.length:Int)=(rd_I_Sym s t.f0).f1) (h4:(rd_I_Sym s t.f0).f2=true→2≤t.f2.length):((∀i,i<t.f2.length→FormOk s (rd_I_Term t.f2 i)∧KidOk s t.f0 t.f2 i)∧True)↔FormOk s t:=by
 constructor
 ·rintro ⟨k,_⟩
  exact .mk t (.inr ⟨h,h1,h2,h3,h4,fun i hi=>(k i hi).2⟩) (rdTerm_all fun i hi=>(k i hi).1)
 ·intro k
  refine ⟨fun i hi=>⟨k.kid _ (rdTerm_mem (by omega) (by omega)),?_⟩,trivial⟩
  rcases k.row with r | r
  ·exact absurd r.1 h
  ·exact r.2.2.2.2.2 i hi
theorem impl_formOk_ev (s:List I_Sym) (hs:Names s) (t:I_Term):sz t≤1000000000→Ev (fun k=>fQ27.f k s t.f0 t.f1 t.f2) (B (FormOk s t)):=by
 induction t using tInd with
 | h t ih=>
 intro h
 have hlen:=sz_kids t
 refine Wp.ev ?_
 refine Wp.step (fun k=>by rw [fQ27.f]) ?_
 have loop:t.f0≠-1→(0≤t.f0∧t.f0<(s.length:Int))→t.f1=0→((rd_I_Sym s t.f0).f2=false→(t.f2.length:Int)=(rd_I_Sym s t.f0).f1)→((rd_I_Sym s t.f0).f2=true→2≤t.f2.length)→Wp (fun k=>fQ27.l0 k s t.f2 t.f2.length 0 t.f0 t.f1 t.f2) (fun r=>r=B (FormOk s t)):=by
  intro h0 h1 h2 h3 h4
  refine (Wp.all (Φ:=fun i=>FormOk s (rd_I_Term t.f2 i)∧KidOk s t.f0 t.f2 i) (Ψ:=True) t.f2.length (by omega) (fun k i=>fQ27.l0 k s t.f2 t.f2.length i t.f0 t.f1 t.f2) ?_ ?_).wp (B_congr (formOk_iff h0 h1 h2 h3 h4))
  ·intro i P hi hw hT hF
   refine Wp.step (fun k=>by rw [fQ27.l0]) ?_
   have m:=rdTerm_mem (l:=t.f2) (i:=i) (by omega) (by omega)
   have hx:=sz_kid m
   have e1:0<i→wrap64 ((i:Int) - 1)=(i:Int) - 1:=fun _=>wrap_id (by omega) (by omega)
   simp only [hw.e]
   repeat' (first|(with_reducible first|refine qtB ?_|refine qfB ?_|refine qt ?_|refine qf ?_)|(with_reducible refine Wp.bindE (ih _ m (by omega)) ?_)|(rw [e1 (by omega)])|(with_reducible refine Wp.bindE (impl_Before_ev _ _ (by omega)) ?_)|(simp only [decide_eq_true_eq])|(with_reducible refine Wp.ret ?_)|(with_reducible refine ql ?_)|(with_reducible refine Wp.iteB (fun hc=>?_) (fun hc=>?_))|(with_reducible refine Wp.ite (fun hc=>?_) (fun hc=>?_)))
   all_goals first | exact hT ⟨by assumption,by unfold KidOk;intro h5;simp_all;try omega⟩ | exact hF (by unfold KidOk;rintro ⟨h5,h6⟩;simp_all;try omega)
  ·intro _
   refine Wp.step (fun k=>by rw [fQ27.l0]) ?_
   refine Wp.itef (by omega) (Wp.ret ?_)
   rw [eqB];simp
 repeat' (first|(with_reducible first|refine qtB ?_|refine qfB ?_|refine qt ?_|refine qf ?_)|(with_reducible refine Wp.bindE (impl_isVar_ev _ _ _) ?_)|(with_reducible refine Wp.bindE (impl_from_ev _ _ _) ?_)|(with_reducible refine Wp.bindE (impl_isSym_ev s hs _) ?_)|(exact loop (by assumption) (by assumption) (by assumption) (by simp_all) (by simp_all;try omega))|(simp only [decide_eq_true_eq])|(with_reducible refine Wp.ret ?_)|(with_reducible refine ql ?_)|(with_reducible refine Wp.iteB (fun hc=>?_) (fun hc=>?_))|(with_reducible refine Wp.ite (fun hc=>?_) (fun hc=>?_)))
 all_goals (rw [eqB];constructor)
 all_goals first | (intro h5;simp_all;done) | skip
 ·intro h5
  simp only [decide_eq_true_eq] at h5
  refine .mk t (.inl ⟨by assumption,by assumption,by omega⟩) ?_
  have:t.f2=[]:=List.length_eq_zero_iff.1 (by omega)
  rw [this];intro x hx;cases hx
 all_goals (intro h5;rcases h5.row with r | r <;> simp_all <;> omega)
def TermOk (s:List I_Sym) (t:I_Term):Prop:=SigOk s∧(sz t:Int)≤60∧FormOk s t
theorem impl_TermOk_ev (s:List I_Sym) (hs:Names s) (t:I_Term) (h:sz t≤1000000000):Ev (fun k=>fQ47.f k s t.f0 t.f1 t.f2) (B (TermOk s t)):=by
 refine Wp.ev ?_
 unfold fQ47.f
 repeat' (first|(with_reducible first|refine qtB ?_|refine qfB ?_|refine qt ?_|refine qf ?_)|(with_reducible refine Wp.bindE (impl_SigOk_ev s hs) ?_)|(with_reducible refine Wp.bindE (impl_Parts_ev t h) ?_)|(with_reducible refine Wp.bindE (impl_formOk_ev s hs t h) ?_)|(simp only [decide_eq_true_eq])|(with_reducible refine Wp.ret ?_)|(with_reducible refine ql ?_)|(with_reducible refine Wp.iteB (fun hc=>?_) (fun hc=>?_))|(with_reducible refine Wp.ite (fun hc=>?_) (fun hc=>?_)))
 ·exact B_congr ⟨fun h=>⟨by assumption,by assumption,h⟩,fun h=>h.2.2⟩
 ·rw [eqB];unfold TermOk;grind
 ·rw [eqB];unfold TermOk;grind
theorem and_rng (e:Int):0≤bits .and .i64 e 255∧bits .and .i64 e 255≤255:=by
 have h:(BitVec.ofInt 64 e &&& BitVec.ofInt 64 255).toNat≤255:=by
  rw [BitVec.toNat_and,BitVec.toNat_ofInt]
  exact Nat.and_le_right
 have h2:bits .and .i64 e 255=IntKind.i64.wrap (((BitVec.ofInt 64 e &&& BitVec.ofInt 64 255).toNat:Nat):Int):=rfl
 rw [h2,IntKind.wrap_i64]
 omega
structure Cur (b:List Int) (i:Int):Prop where
 i0:0≤i
 ln:b.length≤1048576
theorem spec_l1New_v2_wp (b:List Int) (h:b.length≤1048576):Wp (fun k=>fQ23.f k b) (fun r=>Cur r.1 r.2.1):=by
 unfold fQ23.f
 refine Wp.cnt1 (min b.length 4000) (by omega) (fun k i s=>fQ23.l0 k b s i) (fun i s=>True) ?_ ?_ _ trivial
 ·intro i s hi hw _ ih
  refine Wp.step (fun k=>by rw [fQ23.l0]) ?_
  simp only [hw.e]
  repeat' (first|(with_reducible first|refine qtB ?_|refine qfB ?_|refine qt ?_|refine qf ?_)|(exact ih _ trivial)|(simp only [decide_eq_true_eq])|(with_reducible refine Wp.ret ?_)|(with_reducible refine ql ?_)|(with_reducible refine Wp.iteB (fun hc=>?_) (fun hc=>?_))|(with_reducible refine Wp.ite (fun hc=>?_) (fun hc=>?_)))
 ·intro s _
  refine Wp.step (fun k=>by rw [fQ23.l0]) ?_
  repeat' (first|(with_reducible first|refine qtB ?_|refine qfB ?_|refine qt ?_|refine qf ?_)|(simp only [decide_eq_true_eq])|(with_reducible refine Wp.ret ?_)|(with_reducible refine ql ?_)|(with_reducible refine Wp.iteB (fun hc=>?_) (fun hc=>?_))|(with_reducible refine Wp.ite (fun hc=>?_) (fun hc=>?_)))
  all_goals exact ⟨Int.le_refl _,h⟩
theorem spec_l1Byte_v2_wp {b:List Int} {i:Int} (h:Int) (hc:Cur b i):Wp (fun _=>fQ30.f b i h) (fun r=>(0≤r.1∧r.1≤255)∧Cur r.2.1 r.2.2.1):=by
 obtain ⟨h0,h1⟩:=hc
 unfold fQ30.f
 repeat' (first|(with_reducible first|refine qtB ?_|refine qfB ?_|refine qt ?_|refine qf ?_)|(simp only [decide_eq_true_eq])|(with_reducible refine Wp.ret ?_)|(with_reducible refine ql ?_)|(with_reducible refine Wp.iteB (fun hc=>?_) (fun hc=>?_))|(with_reducible refine Wp.ite (fun hc=>?_) (fun hc=>?_)))
 ·refine ⟨and_rng _,?_,h1⟩
  show 0≤wrap64 (i+1)
  rw [wrap_id (by omega) (by omega)];omega
 ·exact ⟨and_rng _,h0,h1⟩
theorem tmod_rng0 {x n:Int} (h:0≤x) (hn:0<n):0≤x.tmod n∧x.tmod n<n:=by
 rw [Int.tmod_eq_emod_of_nonneg h]
 exact ⟨Int.emod_nonneg _ (by omega),Int.emod_lt_of_pos _ hn⟩
theorem spec_l1Below_v2_wp (n:Int) {b:List Int} {i:Int} (h:Int) (hc:Cur b i):Wp (fun _=>fQ17.f n b i h) (fun r=>(0≤r.1∧(r.1<n∨(n≤0∧r.1=0)))∧Cur r.2.1 r.2.2.1):=by
 unfold fQ17.f
 refine Wp.ite (fun hn=>Wp.ret ⟨⟨Int.le_refl _,.inr ⟨hn,rfl⟩⟩,hc⟩) (fun hn=>Wp.ite (fun h2=>?_) (fun h2=>?_))
 ·refine Wp.bind (spec_l1Byte_v2_wp _ hc) (fun r hr=>Wp.itef (by omega) (Wp.ret ⟨?_,hr.2⟩))
  have:=tmod_rng0 hr.1.1 (n:=n) (by omega)
  exact ⟨this.1,.inl this.2⟩
 ·refine Wp.bind (spec_l1Byte_v2_wp _ hc) (fun r hr=>Wp.bind (spec_l1Byte_v2_wp _ hr.2) (fun s hs=>Wp.bind (spec_l1Byte_v2_wp _ hs.2) (fun t ht=>Wp.bind (spec_l1Byte_v2_wp _ ht.2) (fun u hu=>Wp.itef (by omega) (Wp.ret ⟨?_,hu.2⟩)))))
  have r1:=hr.1;have s1:=hs.1;have t1:=ht.1;have u1:=hu.1
  rw [wrap_id (x:=r.1*16777216) (by omega) (by omega),wrap_id (x:=s.1*65536) (by omega) (by omega),wrap_id (x:=t.1*256) (by omega) (by omega),wrap_id (x:=r.1*16777216+s.1*65536) (by omega) (by omega),wrap_id (x:=r.1*16777216+s.1*65536+t.1*256) (by omega) (by omega),wrap_id (x:=r.1*16777216+s.1*65536+t.1*256+u.1) (by omega) (by omega)]
  have:=tmod_rng0 (x:=r.1*16777216+s.1*65536+t.1*256+u.1) (by omega) (n:=n) (by omega)
  exact ⟨this.1,.inl this.2⟩
theorem spec_l1Once_v2_wp (n:Int) {b:List Int} {i:Int} (h:Int) (hc:Cur b i):Wp (fun _=>fQ31.f n b i h) (fun r=>Cur r.2.1 r.2.2.1):=by
 unfold fQ31.f
 exact Wp.bind (spec_l1Below_v2_wp n h hc) (fun r hr=>Wp.ret hr.2)
theorem spec_l1PickInt_v2_wp (l:List Int) (hl:l≠[]) {b:List Int} {i:Int} (h:Int) (hc:Cur b i):Wp (fun _=>fQ20.f l b i h) (fun r=>r.1∈l∧Cur r.2.1 r.2.2.1):=by
 unfold fQ20.f
 have hp:0<l.length:=List.length_pos_iff.2 hl
 refine Wp.bind (spec_l1Below_v2_wp _ h hc) (fun r hr=>?_)
 obtain ⟨⟨a,c⟩,d⟩:=hr
 have e:r.1<(l.length:Int):=by omega
 exact Wp.itet a (Wp.itet e (Wp.ret ⟨rd_mem a e,d⟩))
def Raw (v:Int):Nat→I_Term→Prop
 | 0,t=>(t.f0= -1∧0≤t.f1∧t.f1<v∧t.f2=[])∨((t.f0=1∨t.f0=2)∧t.f1=0∧t.f2=[])
 | d+1,t=>(t.f0= -1∧0≤t.f1∧t.f1<v∧t.f2=[])∨((t.f0=1∨t.f0=2)∧t.f1=0∧t.f2=[])∨(t.f1=0∧((t.f0=3∧∃a,Raw v d a∧t.f2=[a])∨((t.f0=4∨t.f0=5∨t.f0=6)∧∃a b,Raw v d a∧Raw v d b∧t.f2=[a,b])))
theorem Raw.sz {v:Int}:∀{d:Nat} {t:I_Term},Raw v d t→sz t+1≤2 ^ (d+1):=by
 intro d
 induction d with
 | zero=>rintro t (⟨_,_,_,h⟩ | ⟨_,_,h⟩) <;> rw [sz_eq,h,szs] <;> omega
 | succ d ih=>
  have hp:2 ^ (d+1+1)=2*2 ^ (d+1):=by rw [Nat.pow_succ];omega
  have h1:1≤2 ^ (d+1):=Nat.one_le_two_pow
  rintro t (⟨_,_,_,h⟩ | ⟨_,_,h⟩ | ⟨_,⟨_,a,ha,h⟩ | ⟨_,a,b,ha,hb,h⟩⟩) <;> rw [sz_eq,h]
  ·rw [szs];omega
  ·rw [szs];omega
  ·have:=ih ha;simp only [szs];omega
  ·have:=ih ha;have:=ih hb;simp only [szs];omega
theorem Raw.var {v x:Int} {d:Nat} {l:List I_Term} (h:0≤x∧(x<v∨(v≤0∧x=0))) (hv:v>0) (hl:l=[]):Raw v d ⟨-1,x,l⟩:=by
 have h1:x<v:=by omega
 cases d <;> exact .inl ⟨rfl,h.1,h1,hl⟩
theorem Raw.con {v x:Int} {d:Nat} (h:0≤x∧(x<2∨((2:Int)≤0∧x=0))):Raw v d ⟨wrap64 (1+x),0,[]⟩:=by
 have e:wrap64 (1+x)=1+x:=wrap_id (by omega) (by omega)
 rw [e]
 have h2:(1+x=1∨1+x=2)∧(0:Int)=0∧([]:List I_Term)=[]:=⟨by omega,rfl,rfl⟩
 cases d
 ·exact .inr h2
 ·exact .inr (.inl h2)
theorem spec_l3DrawDeep_v2_wp (v:Int):∀(d:Nat) (hd:d≤20) {b:List Int} {i:Int} (h:Int) (hc:Cur b i),Wp (fun k=>fQ16.f k d v b i h) (fun r=>Raw v d ⟨r.1,r.2.1,r.2.2.1⟩∧Cur r.2.2.2.1 r.2.2.2.2.1):=by
 intro d
 induction d with
 | zero=>
  intro _ b i h hc
  refine Wp.step (fun k=>by rw [fQ16.f]) ?_
  refine Wp.itet rfl (Wp.ite (fun hv=>Wp.bind (spec_l1Once_v2_wp 2 h hc) fun r hr=>Wp.ite (fun _=>Wp.bind (spec_l1Below_v2_wp v _ hr) fun s hs=>?_) (fun _=>Wp.bind (spec_l1Below_v2_wp 2 _ hr) fun s hs=>Wp.ret ⟨Raw.con hs.1,hs.2⟩)) (fun hv=>Wp.bind (spec_l1Below_v2_wp 2 _ hc) fun s hs=>Wp.ret ⟨Raw.con hs.1,hs.2⟩))
  exact Wp.bindE (v:=(-1,s.1,[])) Ev.ret (Wp.ret ⟨Raw.var hs.1 hv rfl,hs.2⟩)
 | succ d ih=>
  intro hd b i h hc
  have e:wrap64 (((d+1:Nat):Int) - 1)=(d:Int):=by rw [wrap_id (by omega) (by omega)];omega
  refine Wp.step (fun k=>by rw [fQ16.f]) ?_
  refine Wp.itef (by omega) (Wp.bind (spec_l1Once_v2_wp 3 h hc) fun o ho=>Wp.ite (fun _=>Wp.ite (fun hv=>Wp.bind (spec_l1Once_v2_wp 2 _ ho) fun r hr=>Wp.ite (fun _=>Wp.bind (spec_l1Below_v2_wp v _ hr) fun s hs=>?_) (fun _=>Wp.bind (spec_l1Below_v2_wp 2 _ hr) fun s hs=>Wp.ret ⟨Raw.con hs.1,hs.2⟩)) (fun hv=>Wp.bind (spec_l1Below_v2_wp 2 _ ho) fun s hs=>Wp.ret ⟨Raw.con hs.1,hs.2⟩)) (fun _=>?_))
  ·exact Wp.bindE (v:=(-1,s.1,[])) Ev.ret (Wp.ret ⟨Raw.var hs.1 hv rfl,hs.2⟩)
  ·refine Wp.bind (spec_l1PickInt_v2_wp [3,4,5,5,6] (by simp) _ ho) fun p hp=>?_
   rw [e]
   have hp1:p.1=3∨p.1=4∨p.1=5∨p.1=6:=by have:=hp.1;simp at this;omega
   refine Wp.bind (ih (by omega) _ hp.2) fun x hx=>Wp.ite (fun h3=>Wp.bind (ih (by omega) _ hx.2) fun y hy=>Wp.itet (by simp) (Wp.bindE (v:=(p.1,0,[_,_])) Ev.ret (Wp.ret ⟨?_,hy.2⟩))) (fun h3=>Wp.bindE (v:=(p.1,0,[_])) Ev.ret (Wp.ret ⟨?_,hx.2⟩))
   ·exact .inr (.inr ⟨rfl,.inr ⟨by show p.1=4∨p.1=5∨p.1=6;omega,_,_,hx.1,hy.1,rfl⟩⟩)
   ·exact .inr (.inr ⟨rfl,.inl ⟨by show p.1=3;omega,_,hx.1,rfl⟩⟩)
def sig2:List I_Sym:=[⟨⟨#[116,116]⟩,0,false⟩,⟨⟨#[97]⟩,0,false⟩,⟨⟨#[98]⟩,0,false⟩,⟨⟨#[103]⟩,1,false⟩,⟨⟨#[104]⟩,2,false⟩,⟨⟨#[102]⟩,2,true⟩,⟨⟨#[107]⟩,2,true⟩]
theorem spec_l2Sig_ev:Ev (fun _=>fQ59.f) sig2:=Ev.ret
theorem sig2_names:Names sig2:=by
 refine ⟨by decide,fun x hx=>?_⟩
 simp only [sig2,List.mem_cons,List.not_mem_nil,or_false] at hx
 rcases hx with rfl | rfl | rfl | rfl | rfl | rfl | rfl <;> decide
theorem spec_l3DrawRight_v2_wp (v:Int) {b:List Int} {i:Int} (h:Int) (hc:Cur b i):Wp (fun k=>fQ32.f k v b i h) (fun r=>(∃t,Raw v 2 t∧(⟨r.1,r.2.1,r.2.2.1⟩:I_Term)=norm sig2 t)∧Cur r.2.2.2.1 r.2.2.2.2.1):=by
 unfold fQ32.f
 refine Wp.bindE spec_l2Sig_ev (Wp.bind (spec_l3DrawDeep_v2_wp v 2 (by decide) h hc) fun r hr=>Wp.bindE (spec_Norm_ev sig2 sig2_names ⟨r.1,r.2.1,r.2.2.1⟩ (by have:=Raw.sz hr.1;omega)) (Wp.ret ⟨⟨_,hr.1,?_⟩,hr.2⟩))
 exact tEta _
def RawT (x:I_Sym) (t:List Int):Prop:=t.length=2 ^ x.f1.toNat∧InR 2 t∧(x.f2=true→t∈[[0,0,0,1],[0,1,1,1],[0,1,1,0],[1,0,0,1],[0,0,0,0],[1,1,1,1]])
inductive RawM:List I_Sym→List (List Int)→Prop
 | nil:RawM [] []
 | snoc {p:List I_Sym} {T:List (List Int)} {x:I_Sym} {t:List Int}:RawM p T→RawT x t→RawM (p++[x]) (T++[t])
theorem RawM.len {s:List I_Sym} {T:List (List Int)} (h:RawM s T):T.length=s.length:=by
 induction h with
 | nil=>rfl
 | snoc _ _ ih=>simp [ih]
def rows2:List (List Int):=[[0,0,0,1],[0,1,1,1],[0,1,1,0],[1,0,0,1],[0,0,0,0],[1,1,1,1]]
theorem spec_l21DrawFor_v2_wp (s:List I_Sym) (hs:s.length≤1000000) (ha:∀x∈s,0≤x.f1∧x.f1≤3∧(x.f2=true→x.f1=2)) {b:List Int} {i:Int} (h:Int) (hc:Cur b i):Wp (fun k=>fQ10.f k s b i h) (fun r=>RawM s r.1∧Cur r.2.1 r.2.2.1):=by
 unfold fQ10.f
 refine Wp.each4 s zI_Sym (by omega) (fun k n T b i h=>fQ10.l0 k s rows2 n T b i h) (fun p T b i h=>RawM p T∧Cur b i) ?_ ?_ [] b i h ⟨.nil,hc⟩
 ·intro p x q T b i h e m hn hr hw hI ih
  obtain ⟨hM,hc⟩:=hI
  refine Wp.step (fun k=>by rw [fQ10.l0]) ?_
  have r1:rd_I_Sym s (p.length:Int)=x:=hr
  have hTl:=hM.len
  obtain ⟨x0,x3,x2⟩:=ha x m
  have l6:((rows2.length:Nat):Int)=6:=rfl
  simp only [hw.e,r1,l6]
  refine Wp.itet (by omega) (Wp.itet (Int.natCast_nonneg _) (Wp.ite (fun hac=>?_) (fun hac=>?_)))
  ·refine Wp.bind (spec_l1Below_v2_wp 6 h hc) fun r hr=>?_
   have hr1:=hr.1
   have hin:rd_Ls_i64 rows2 r.1∈rows2:=rdRow_mem (by omega) (by rw [l6];omega)
   have h4:(rd_Ls_i64 rows2 r.1).length=4∧InR 2 (rd_Ls_i64 rows2 r.1):=by
    revert hin
    generalize rd_Ls_i64 rows2 r.1=t
    intro hin
    simp only [rows2,List.mem_cons,List.not_mem_nil,or_false] at hin
    rcases hin with rfl | rfl | rfl | rfl | rfl | rfl <;> exact ⟨rfl,by intro x hx;simp at hx;omega⟩
   refine Wp.itet (by omega) (Wp.itet (by omega) (Wp.itet (by simp [h4.1]) (Wp.itet (by simp;omega) ?_)))
   refine ih _ _ _ _ ⟨hM.snoc ⟨?_,h4.2,fun _=>hin⟩,hr.2⟩
   rw [x2 hac]
   exact h4.1
  ·have e1:∀t0:Int,t0=x.f1→(wrap64 (1*2 ^ (min (t0:Int).toNat 64)))=((2 ^ x.f1.toNat:Nat):Int):=by
    rintro _ rfl
    have:x.f1=0∨x.f1=1∨x.f1=2∨x.f1=3:=by omega
    rcases this with e | e | e | e <;> rw [e] <;> decide+kernel
   have hpow:2 ^ x.f1.toNat≤8:=by
    have:x.f1.toNat≤3:=by omega
    exact Nat.pow_le_pow_right (by omega) this
   refine Wp.cnt4 (2 ^ x.f1.toNat) (by omega) (fun k n t b i h=>fQ10.l1 k s rows2 p.length t n T b i h) (fun n t b i h=>(t.length=n∧InR 2 t)∧Cur b i) ?_ ?_ [] b i h ⟨⟨rfl,by intro x hx;cases hx⟩,hc⟩
   ·intro n t b i h hn2 hw2 hI jh
    obtain ⟨⟨hl,hR⟩,hc⟩:=hI
    refine Wp.step (fun k=>by rw [fQ10.l1]) ?_
    simp only [hw2.e,r1]
    have m1:Ev (fun _=>fQ70.f x.f1 3) x.f1:=by
     unfold fQ70.f
     by_cases h3:x.f1<3
     ·rw [if_pos h3];exact Ev.ret
     ·rw [if_neg h3];have:x.f1=3:=by omega
      rw [this];exact Ev.ret
    have m2:Ev (fun _=>fQ69.f 0 x.f1) x.f1:=by
     unfold fQ69.f
     rw [if_neg (by omega)];exact Ev.ret
    refine Wp.itet (Int.natCast_nonneg _) (Wp.itet (by omega) (Wp.bindE m1 (Wp.bindE m2 (Wp.itef (by omega) ?_))))
    rw [e1 x.f1 rfl]
    refine Wp.itet (by omega) (Wp.bind (spec_l1Below_v2_wp 2 h hc) fun r hr=>Wp.itet (by simp;omega) ?_)
    have hr1:=hr.1
    exact jh _ _ _ _ ⟨⟨by simp [hl],snocAll hR (by omega)⟩,hr.2⟩
   ·intro t b i h hI
    obtain ⟨⟨hl,hR⟩,hc⟩:=hI
    refine Wp.step (fun k=>by rw [fQ10.l1]) ?_
    simp only [hw.e,r1]
    have m1:Ev (fun _=>fQ70.f x.f1 3) x.f1:=by
     unfold fQ70.f
     by_cases h3:x.f1<3
     ·rw [if_pos h3];exact Ev.ret
     ·rw [if_neg h3];have:x.f1=3:=by omega
      rw [this];exact Ev.ret
    have m2:Ev (fun _=>fQ69.f 0 x.f1) x.f1:=by
     unfold fQ69.f
     rw [if_neg (by omega)];exact Ev.ret
    refine Wp.itet (Int.natCast_nonneg _) (Wp.itet (by omega) (Wp.bindE m1 (Wp.bindE m2 (Wp.itef (by omega) ?_))))
    rw [e1 x.f1 rfl]
    refine Wp.itef (by omega) (Wp.itet (by simp;omega) ?_)
    exact ih _ _ _ _ ⟨hM.snoc ⟨hl,hR,fun h=>absurd h hac⟩,hc⟩
 ·intro T b i h hI
  refine Wp.step (fun k=>by rw [fQ10.l0]) ?_
  exact Wp.itef (by omega) (Wp.ret hI)
theorem sig2_ars:∀x∈sig2,0≤x.f1∧x.f1≤3∧(x.f2=true→x.f1=2):=by
 intro x hx
 simp only [sig2,List.mem_cons,List.not_mem_nil,or_false] at hx
 rcases hx with rfl | rfl | rfl | rfl | rfl | rfl | rfl <;> decide
theorem spec_DrawMeaning_wp (b:List Int) (h:b.length≤1048576):Wp (fun k=>fQ55.f k b) (fun r=>r.1=sig2∧RawM sig2 r.2):=by
 unfold fQ55.f
 exact Wp.bindE spec_l2Sig_ev (Wp.bind (spec_l1New_v2_wp b h) fun r hr=>Wp.bindE spec_l2Sig_ev (Wp.bind (spec_l21DrawFor_v2_wp sig2 (by decide) sig2_ars _ hr) fun s hs=>Wp.ret ⟨rfl,hs.1⟩))
theorem impl_Blind_ev (s:List I_Sym) (hs:Names s) (f:Int):Ev (fun _=>fQ64.f s f) (B (Blind s f)):=by
 refine Wp.ev ?_
 unfold fQ64.f
 repeat' (first|(with_reducible first|refine qtB ?_|refine qfB ?_|refine qt ?_|refine qf ?_)|(with_reducible refine Wp.bindE (impl_isSym_ev s hs f) ?_)|(simp only [decide_eq_true_eq])|(with_reducible refine Wp.ret ?_)|(with_reducible refine ql ?_)|(with_reducible refine Wp.iteB (fun hc=>?_) (fun hc=>?_))|(with_reducible refine Wp.ite (fun hc=>?_) (fun hc=>?_)))
 ·rw [eqB];exact ⟨fun h=>⟨hc.1,hc.2,h⟩,fun h=>h.2.2⟩
 ·rw [eqB];exact ⟨fun h=>absurd h (by decide),fun h=>absurd ⟨h.1,h.2.1⟩ hc⟩
def placeOf (z:Int):List Int→Int
 | []=>0
 | a::r=>a+z*placeOf z r
def varV (z:Int) (env:List Int) (v:Int):Int:=if v≥(env.length:Int) then 0 else (((rd env v).tmod z)+z).tmod z
def foldV (z:Int) (t:List Int):List Int→Int
 | []=>0
 | a::r=>r.foldl (fun x y=>opw z t x y) a
noncomputable def nodeV (s:List I_Sym) (z:Int) (T:List (List Int)) (env:List Int) (f v:Int) (vs:List Int):Int:=
 if f= -1 then varV z env v else if B (Blind s f)=true then foldV z (rd_Ls_i64 T f) vs else rd (rd_Ls_i64 T f) (placeOf z vs)
mutual
noncomputable def mean (s:List I_Sym) (z:Int) (T:List (List Int)) (env:List Int):I_Term→Int
 | ⟨f,v,l⟩=>nodeV s z T env f v (meanL s z T env l)
noncomputable def meanL (s:List I_Sym) (z:Int) (T:List (List Int)) (env:List Int):List I_Term→List Int
 | []=>[]
 | t::l=>mean s z T env t::meanL s z T env l
end
theorem mean_eq (s:List I_Sym) (z:Int) (T:List (List Int)) (env:List Int) (t:I_Term):mean s z T env t=nodeV s z T env t.f0 t.f1 (meanL s z T env t.f2):=by cases t;rw [mean]
theorem meanL_map (s:List I_Sym) (z:Int) (T:List (List Int)) (env:List Int) (l:List I_Term):meanL s z T env l=l.map (mean s z T env):=by
 induction l with
 | nil=>rw [meanL];rfl
 | cons a l ih=>rw [meanL,ih];rfl
theorem placeOf_snoc (z x:Int) (a:List Int):placeOf z (a++[x])=placeOf z a+z ^ a.length*x:=by
 induction a with
 | nil=>simp [placeOf]
 | cons b a ih=>
  rw [List.cons_append,placeOf,placeOf,ih,List.length_cons,Int.pow_succ,Int.mul_add,←Int.mul_assoc,Int.mul_comm (z ^ a.length) z,Int.add_assoc]
theorem placeOf_rng {z:Nat} (hz:1≤z∧z≤4) {vs:List Int} (h:InR z vs):0≤placeOf z vs∧placeOf z vs<((z ^ vs.length:Nat):Int):=by
 induction vs with
 | nil=>simp [placeOf]
 | cons a r ih=>
  have ha:=h a (by simp)
  have hr:=ih (fun x hx=>h x (by simp [hx]))
  rw [placeOf,List.length_cons,Nat.pow_succ]
  rcases z4 hz with rfl | rfl | rfl | rfl <;> omega
theorem foldV_rng {z:Nat} {t:List Int} (h:Sq z t) {vs:List Int} (hv:InR z vs):0≤foldV z t vs∧foldV z t vs<z:=by
 have hz:=h.1
 cases vs with
 | nil=>simp [foldV];omega
 | cons a r=>
  have:∀(r:List Int) (a:Int),(0≤a∧a<z)→InR z r→0≤r.foldl (fun x y=>opw z t x y) a∧r.foldl (fun x y=>opw z t x y) a<z:=by
   intro r
   induction r with
   | nil=>intro a ha _;exact ha
   | cons b r ih=>intro a ha hr;exact ih _ (opw_rng h ha (hr b (by simp))) (fun x hx=>hr x (by simp [hx]))
  exact this r a (hv a (by simp)) (fun x hx=>hv x (by simp [hx]))
theorem varV_rng {z:Nat} (hz:1≤z∧z≤4) (env:List Int) (v:Int):0≤varV z env v∧varV z env v<z:=by
 unfold varV
 split
 ·omega
 ·have h0:(0:Int)<z:=by omega
  have h1:=Int.lt_tmod_of_pos (rd env v) h0
  have h2:=Int.tmod_lt_of_pos (rd env v) h0
  exact tmod_rng0 (by omega) h0
theorem row_sq {s:List I_Sym} {z:Nat} {T:List (List Int)} (hw:WorldOk s z T) {f:Int} (h:Blind s f):Sq z (rd_Ls_i64 T f):=by
 obtain ⟨h0,h1,h2⟩:=h
 obtain ⟨n,rfl⟩:∃n:Nat,f=n:=⟨f.toNat,by omega⟩
 have r:=hw.2.2.2 n (by omega)
 have sg:=hw.1.1 n (by omega)
 refine ⟨hw.2.1,?_,r.2.1⟩
 rw [r.1,sg.2.2.2 h2]
 show z ^ 2=z*z
 rw [Nat.pow_two]
theorem row_at {s:List I_Sym} {z:Nat} {T:List (List Int)} (hw:WorldOk s z T) {f:Int} (h0:0≤f) (h1:f<(s.length:Int)):(rd_Ls_i64 T f).length=z ^ (rd_I_Sym s f).f1.toNat∧InR z (rd_Ls_i64 T f)∧0≤(rd_I_Sym s f).f1∧(rd_I_Sym s f).f1≤3:=by
 obtain ⟨n,rfl⟩:∃n:Nat,f=n:=⟨f.toNat,by omega⟩
 have r:=hw.2.2.2 n (by omega)
 have sg:=hw.1.1 n (by omega)
 exact ⟨r.1,r.2.1,sg.2.2.1.1,sg.2.2.1.2⟩
theorem mean_rng {s:List I_Sym} {z:Nat} {T:List (List Int)} (hw:WorldOk s z T) (env:List Int) (t:I_Term):FormOk s t→0≤mean s z T env t∧mean s z T env t<z:=by
 induction t using tInd with
 | h t ih=>
 intro hf
 have hv:InR z (meanL s z T env t.f2):=by
  rw [meanL_map]
  intro x hx
  obtain ⟨y,hy,rfl⟩:=List.mem_map.1 hx
  exact ih y hy (hf.kid y hy)
 rw [mean_eq,nodeV]
 split
 ·exact varV_rng hw.2.1 env t.f1
 ·rename_i h1
  split
  ·rename_i h2
   exact foldV_rng (row_sq hw (B_iff.1 h2)) hv
  ·rename_i h2
   rcases hf.row with r | r
   ·exact absurd r.1 h1
   ·obtain ⟨_,⟨a,b⟩,_,c,d,_⟩:=r
    have h3:(rd_I_Sym s t.f0).f2=false:=by
     cases h:(rd_I_Sym s t.f0).f2
     ·rfl
     ·exact absurd (B_iff.2 ⟨a,b,h⟩) h2
    obtain ⟨l1,l2,l3,l4⟩:=row_at hw a b
    have hp:=placeOf_rng hw.2.1 hv
    have hl:(meanL s z T env t.f2).length=(rd_I_Sym s t.f0).f1.toNat:=by rw [meanL_map,List.length_map];have:=c h3;omega
    rw [hl,←l1] at hp
    exact l2 _ (rd_mem hp.1 hp.2)
theorem impl_means_ev {s:List I_Sym} (hs:Names s) {z:Nat} {T:List (List Int)} (hw:WorldOk s z T) (env:List Int) (he:env.length≤1000000000) (t:I_Term):sz t≤1000000000→FormOk s t→Ev (fun k=>fQ22.f k s z T t.f0 t.f1 t.f2 env) (mean s z T env t):=by
 induction t using tInd with
 | h t ih=>
 intro ht hf
 have hlen:=sz_kids t
 have hz:=hw.2.1
 have hTl:=hw.2.2.1
 refine Wp.ev ?_
 refine Wp.step (fun k=>by rw [fQ22.f]) ?_
 rw [mean_eq,nodeV]
 refine Wp.bindE (impl_isVar_ev _ _ _) ?_
 refine Wp.iteB (fun hv=>?_) (fun hv=>?_)
 ·rw [if_pos hv]
  have h1:0≤t.f1:=by
   rcases hf.row with r | r
   ·exact r.2.1.1
   ·exact absurd hv r.1
  have h2:=Int.lt_tmod_of_pos (rd env t.f1) (b:=z) (by omega)
  have h3:=Int.tmod_lt_of_pos (rd env t.f1) (b:=z) (by omega)
  rw [wrap_id (x:=(rd env t.f1).tmod z+z) (by omega) (by omega)]
  unfold varV
  refine Wp.ite (fun hc=>Wp.ret (if_pos hc).symm) (fun hc=>?_)
  rw [if_neg hc]
  exact Wp.itet h1 (Wp.itet (by omega) (Wp.itef (by omega) (Wp.ret rfl)))
 ·rw [if_neg hv]
  rcases hf.row with r | r
  ·exact absurd r.1 hv
  obtain ⟨_,⟨a,b⟩,_,c,d,_⟩:=r
  have vals:InR z (meanL s z T env t.f2):=by
   rw [meanL_map]
   intro x hx
   obtain ⟨y,hy,rfl⟩:=List.mem_map.1 hx
   exact mean_rng hw env y (hf.kid y hy)
  refine Wp.itet a (Wp.itet (by omega) (Wp.bindE (impl_Blind_ev s hs _) (Wp.iteB (fun hb=>?_) (fun hb=>?_))))
  ·rw [if_pos (B_iff.2 hb)]
   have sq:=row_sq hw hb
   have h2:=d hb.2.2
   obtain ⟨x0,r,e⟩:∃x0 r,t.f2=x0::r:=by
    cases h:t.f2 with
    | nil=>rw [h] at h2;simp at h2
    | cons x r=>exact ⟨x,r,rfl⟩
   have m0:x0∈t.f2:=by rw [e];simp
   have r0:rd_I_Term t.f2 0=x0:=by rw [e];rfl
   have hk0:=sz_kid m0
   have ed:t.f2.drop (1:Int).toNat=r:=by rw [e];rfl
   rw [r0,ed]
   refine Wp.itet (by omega) (Wp.bindE (ih x0 m0 (by omega) (hf.kid _ m0)) (Wp.itet (by omega) ?_))
   have hl1:t.f2.length=r.length+1:=by rw [e];rfl
   have goal:foldV z (rd_Ls_i64 T t.f0) (meanL s z T env t.f2)=(r.map (mean s z T env)).foldl (fun x y=>opw z (rd_Ls_i64 T t.f0) x y) (mean s z T env x0):=by rw [e,meanL,foldV,meanL_map]
   rw [goal]
   refine Wp.each1 r zI_Term (by omega) (fun k i x=>fQ22.l0 k s env (rd_Ls_i64 T t.f0) x r r.length i z T) (fun p x=>x=(p.map (mean s z T env)).foldl (fun x y=>opw z (rd_Ls_i64 T t.f0) x y) (mean s z T env x0)∧(0≤x∧x<z)) ?_ ?_ _ ⟨rfl,mean_rng hw env x0 (hf.kid _ m0)⟩
   ·intro p y q x e2 m hn hr hwx hI jh
    refine Wp.step (fun k=>by rw [fQ22.l0]) ?_
    have r1:rd_I_Term r (p.length:Int)=y:=hr
    have my:y∈t.f2:=by rw [e];simp [m]
    have hky:=sz_kid my
    have hy:=mean_rng hw env y (hf.kid _ my)
    obtain ⟨o1,o2,o3,o4⟩:=opidx sq hI.2 hy
    rw [hwx.e,r1]
    refine Wp.itet (by omega) (Wp.itet (by omega) (Wp.itet (by omega) (Wp.bindE (ih y my (by omega) (hf.kid _ my)) ?_)))
    rw [o1,o2]
    refine Wp.itet o3 (Wp.itet o4 (jh _ ⟨?_,opw_rng sq hI.2 hy⟩))
    rw [List.map_append,List.foldl_append,←hI.1];rfl
   ·intro x hI
    refine Wp.step (fun k=>by rw [fQ22.l0]) ?_
    exact Wp.itef (by omega) (Wp.ret hI.1)
  ·rw [if_neg (fun h=>hb (B_iff.1 h))]
   have h3:(rd_I_Sym s t.f0).f2=false:=by
    cases h:(rd_I_Sym s t.f0).f2
    ·rfl
    ·exact absurd ⟨a,b,h⟩ hb
   obtain ⟨l1,l2,l3,l4⟩:=row_at hw a b
   have hl:=c h3
   refine Wp.each2 t.f2 zI_Term (by omega) (fun k i x u=>fQ22.l1 k s env (rd_Ls_i64 T t.f0) x u t.f2 t.f2.length i z T) (fun p x u=>x=placeOf z (meanL s z T env p)∧u=((z ^ p.length:Nat):Int)) ?_ ?_ _ _ ⟨by rw [meanL,placeOf],rfl⟩
   ·intro p y q x u e2 m hn hr hwx hI jh
    refine Wp.step (fun k=>by rw [fQ22.l1]) ?_
    obtain ⟨hI1,hI2⟩:=hI
    have r1:rd_I_Term t.f2 (p.length:Int)=y:=hr
    have hky:=sz_kid m
    have hy:=mean_rng hw env y (hf.kid _ m)
    have pv:InR z (meanL s z T env p):=by
     intro x hx
     rw [meanL_map] at hx
     obtain ⟨w,hw2,rfl⟩:=List.mem_map.1 hx
     exact mean_rng hw env w (hf.kid w (by rw [e2];simp [hw2]))
    have pr:=placeOf_rng hz pv
    have pl:(meanL s z T env p).length=p.length:=by rw [meanL_map,List.length_map]
    rw [pl,←hI1] at pr
    have hp3:p.length=0∨p.length=1∨p.length=2:=by omega
    have w1:wrap64 (u*mean s z T env y)=u*mean s z T env y∧wrap64 (x+u*mean s z T env y)=x+u*mean s z T env y∧wrap64 (u*z)=u*z:=by
     rcases z4 hz with rfl | rfl | rfl | rfl <;> rcases hp3 with e3 | e3 | e3 <;> rw [e3] at hI2 pr <;> simp at hI2 pr <;> rw [hI2] <;> refine ⟨wrap_id (by omega) (by omega),wrap_id (by omega) (by omega),wrap_id (by omega) (by omega)⟩
    rw [hwx.e,r1]
    refine Wp.itet (by omega) (Wp.itet (by omega) (Wp.itet (by omega) (Wp.bindE (ih y m (by omega) (hf.kid _ m)) ?_)))
    rw [w1.1,w1.2.1,w1.2.2]
    refine jh _ _ ⟨?_,?_⟩
    ·have em:meanL s z T env (p++[y])=meanL s z T env p++[mean s z T env y]:=by rw [meanL_map,meanL_map,List.map_append];rfl
     rw [em,placeOf_snoc,hI1,hI2,pl];simp
    ·rw [hI2,List.length_append];simp [Int.pow_succ]
   ·intro x u hI
    refine Wp.step (fun k=>by rw [fQ22.l1]) ?_
    have hp:=placeOf_rng hz vals
    have hl2:(meanL s z T env t.f2).length=(rd_I_Sym s t.f0).f1.toNat:=by rw [meanL_map,List.length_map];omega
    rw [hl2,←l1,←hI.1] at hp
    rw [←hI.1]
    exact Wp.itef (by omega) (Wp.itet hp.1 (Wp.itet hp.2 (Wp.ret rfl)))
def hf (x y:Int):Int:=wrap64 (Int.fdiv (IntKind.wrap .u64 (wrap64 (x+y))) (2 ^ (min (1:Int).toNat 64)))
theorem hf_nat {i j:Nat} (h:i+j≤4000000000):hf i j=((i+j) / 2:Nat):=by
 unfold hf
 have e1:wrap64 ((i:Int)+j)=((i+j:Nat):Int):=by rw [wrap_id (by omega) (by omega)];omega
 have e2:IntKind.wrap .u64 ((i+j:Nat):Int)=((i+j:Nat):Int):=by
  show ((i+j:Nat):Int) % _=_
  exact Int.emod_eq_of_lt (by omega) (by show ((i+j:Nat):Int)<18446744073709551616;omega)
 have e3:(2:Int) ^ (min (1:Int).toNat 64)=2:=by decide
 rw [e1,e2,e3,Int.fdiv_eq_ediv_of_nonneg _ (by decide),wrap_id (by omega) (by omega)]
 omega
structure Srt (α:Type) where
 z:α
 cmpE:Nat→α→α→Option Int
 cmp:α→α→Ordering
 Q:α→Prop
 hcmp:∀a b,Q a→Q b→Ev (fun k=>cmpE k a b) (ordI (cmp a b))
 same:∀{a b},cmp a b=.eq↔a=b
 swp:∀a b,cmp b a=(cmp a b).swap
 tr:∀{a b c},cmp a b=.lt→cmp b c=.lt→cmp a c=.lt
 ins0:Nat→List α→Int→Int→Int→Option (List α)
 ins1:Nat→List α→Int→Int→Int→Int→Option (List α)
 swp0:Nat→List α→Int→Int→Int→Int→Option (List α)
 rot0:Nat→List α→Int→Int→Int→Option (List α)
 sy0:Nat→List α→Int→Int→Int→Option (List α)
 sy1:Nat→List α→Int→Int→Option (List α)
 sy2:Nat→List α→Int→Int→Int→Option (List α)
 sy3:Nat→List α→Int→Int→Option (List α)
 sy4:Nat→List α→Int→Int→Int→Int→Int→Int→Int→Int→Option (List α)
 j0:Nat→List α→Int→Int→Int→Int→Int→Option (List α)
 j1:Nat→List α→Int→Int→Int→Option (List α)
 sy:Nat→List α→Int→Int→Int→Option (List α)
 st0:Nat→List α→Int→Int→Int→Int→Option (List α)
 st1:Nat→List α→Int→Int→Option (List α)
 st2:Nat→List α→Int→Int→Int→Int→Option (List α)
 eins0:∀k x a b i,ins0 (k+1) x a b i=if i<b then ins1 k x a b i i else some x
 eins1:∀k x a b i j,ins1 (k+1) x a b i j=if j>a then (if 0≤j then (if j<(x.length:Int) then (if 0≤wrap64 (j - 1) then (if wrap64 (j - 1)<(x.length:Int) then ((cmpE k (rdOf z x j) (rdOf z x (wrap64 (j - 1)))).bind fun t=>if t<0 then (if wrap64 (j - 1)<((x.set j.toNat (rdOf z x (wrap64 (j - 1)))).length:Int) then ins1 k ((x.set j.toNat (rdOf z x (wrap64 (j - 1)))).set (wrap64 (j - 1)).toNat (rdOf z x j)) a b i (wrap64 (j - 1)) else none) else ins0 k x a b (wrap64 (i+1))) else none) else none) else none) else none) else ins0 k x a b (wrap64 (i+1))
 eswp:∀k x a b n i,swp0 (k+1) x a b n i=if i<n then (if 0≤wrap64 (b+i) then (if wrap64 (b+i)<(x.length:Int) then (if 0≤wrap64 (a+i) then (if wrap64 (a+i)<(x.length:Int) then (if wrap64 (b+i)<((x.set (wrap64 (a+i)).toNat (rdOf z x (wrap64 (b+i)))).length:Int) then swp0 k ((x.set (wrap64 (a+i)).toNat (rdOf z x (wrap64 (b+i)))).set (wrap64 (b+i)).toNat (rdOf z x (wrap64 (a+i)))) a b n (wrap64 (i+1)) else none) else none) else none) else none) else none) else some x
 erot:∀k x m i j,rot0 (k+1) x m i j=if i=j then ((swp0 k x (wrap64 (m - i)) m i 0).bind fun t=>some t) else (if i>j then ((swp0 k x (wrap64 (m - i)) m j 0).bind fun t=>rot0 k t m (wrap64 (i - j)) j) else ((swp0 k x (wrap64 (m - i)) (wrap64 ((wrap64 (m+j)) - i)) i 0).bind fun t=>rot0 k t m i (wrap64 (j - i))))
 esy0:∀k x a i j,sy0 (k+1) x a i j=if i<j then (if 0≤hf i j then (if hf i j<(x.length:Int) then (if 0≤a then (if a<(x.length:Int) then ((cmpE k (rdOf z x (hf i j)) (rdOf z x a)).bind fun t=>if t<0 then sy0 k x a (wrap64 (hf i j+1)) j else sy0 k x a i (hf i j)) else none) else none) else none) else none) else sy1 k x i a
 esy1:∀k x i c,sy1 (k+1) x i c=if c<wrap64 (i - 1) then (if 0≤wrap64 (c+1) then (if wrap64 (c+1)<(x.length:Int) then (if 0≤c then (if c<(x.length:Int) then (if wrap64 (c+1)<((x.set c.toNat (rdOf z x (wrap64 (c+1)))).length:Int) then sy1 k ((x.set c.toNat (rdOf z x (wrap64 (c+1)))).set (wrap64 (c+1)).toNat (rdOf z x c)) i (wrap64 (c+1)) else none) else none) else none) else none) else none) else some x
 esy2:∀k x m i j,sy2 (k+1) x m i j=if i<j then (if 0≤m then (if m<(x.length:Int) then (if 0≤hf i j then (if hf i j<(x.length:Int) then ((cmpE k (rdOf z x m) (rdOf z x (hf i j))).bind fun t=>if t<0 then sy2 k x m i (hf i j) else sy2 k x m (wrap64 (hf i j+1)) j) else none) else none) else none) else none) else sy3 k x i m
 esy3:∀k x i c,sy3 (k+1) x i c=if c>i then (if 0≤wrap64 (c - 1) then (if wrap64 (c - 1)<(x.length:Int) then (if 0≤c then (if c<(x.length:Int) then (if wrap64 (c - 1)<((x.set c.toNat (rdOf z x (wrap64 (c - 1)))).length:Int) then sy3 k ((x.set c.toNat (rdOf z x (wrap64 (c - 1)))).set (wrap64 (c - 1)).toNat (rdOf z x c)) i (wrap64 (c - 1)) else none) else none) else none) else none) else none) else some x
 esy4:∀k x a m b mid n start r p,sy4 (k+1) x a m b mid n start r p=if start<r then (if 0≤wrap64 (p - hf start r) then (if wrap64 (p - hf start r)<(x.length:Int) then (if 0≤hf start r then (if hf start r<(x.length:Int) then ((cmpE k (rdOf z x (wrap64 (p - hf start r))) (rdOf z x (hf start r))).bind fun t=>if t<0 then sy4 k x a m b mid n start (hf start r) p else sy4 k x a m b mid n (wrap64 (hf start r+1)) r p) else none) else none) else none) else none) else (if start<m then (if m<wrap64 (n - start) then ((rot0 k x m (wrap64 (m - start)) (wrap64 ((wrap64 (n - start)) - m))).bind fun t=>j0 k t a b mid start (wrap64 (n - start))) else j0 k x a b mid start (wrap64 (n - start))) else j0 k x a b mid start (wrap64 (n - start)))
 ej0:∀k x a b mid start e,j0 (k+1) x a b mid start e=if a<start then (if start<mid then ((sy k x a start mid).bind fun t=>j1 k t b mid e) else j1 k x b mid e) else j1 k x b mid e
 ej1:∀k x b mid e,j1 (k+1) x b mid e=if mid<e then (if e<b then ((sy k x mid e b).bind fun t=>some t) else some x) else some x
 esy:∀k x a m b,sy (k+1) x a m b=if wrap64 (m - a)=1 then sy0 k x a m b else (if wrap64 (b - m)=1 then sy2 k x m a m else (if m>hf a b then sy4 k x a m b (hf a b) (wrap64 (hf a b+m)) (wrap64 ((wrap64 (hf a b+m)) - b)) (hf a b) (wrap64 ((wrap64 (hf a b+m)) - 1)) else sy4 k x a m b (hf a b) (wrap64 (hf a b+m)) a m (wrap64 ((wrap64 (hf a b+m)) - 1))))
 est0:∀k x n bs a b,st0 (k+1) x n bs a b=if b≤n then ((ins0 k x a b (wrap64 (a+1))).bind fun t=>st0 k t n bs b (wrap64 (b+bs))) else ((ins0 k x a n (wrap64 (a+1))).bind fun t=>st1 k t n bs)
 est1:∀k x n bs,st1 (k+1) x n bs=if bs<n then st2 k x n bs 0 (wrap64 (2*bs)) else some x
 est2:∀k x n bs a b,st2 (k+1) x n bs a b=if b≤n then ((sy k x a (wrap64 (a+bs)) b).bind fun t=>st2 k t n bs b (wrap64 (b+wrap64 (2*bs)))) else (if wrap64 (a+bs)<n then ((sy k x a (wrap64 (a+bs)) n).bind fun t=>st1 k t n (wrap64 (bs*2))) else st1 k x n (wrap64 (bs*2)))
def Srt.le {α:Type} (S:Srt α) (a b:α):Prop:=S.cmp a b≠.gt
theorem Srt.le_of_lt {α:Type} (S:Srt α) {a b:α} (h:S.cmp a b=.lt):S.le a b:=by unfold Srt.le;rw [h];nofun
theorem Srt.le_nlt {α:Type} (S:Srt α) {a b:α} (h:¬S.cmp b a=.lt):S.le a b:=by
 unfold Srt.le
 intro h2
 have:=S.swp a b
 rw [h2] at this
 exact h this
theorem Srt.le_refl {α:Type} (S:Srt α) (a:α):S.le a a:=by unfold Srt.le;rw [S.same.2 rfl];nofun
theorem Srt.le_tr {α:Type} (S:Srt α) {a b c:α} (h:S.le a b) (k:S.le b c):S.le a c:=by
 unfold Srt.le at*
 cases h1:S.cmp a b with
 | gt=>exact absurd h1 h
 | eq=>rw [S.same.1 h1];exact k
 | lt=>
  cases h2:S.cmp b c with
  | gt=>exact absurd h2 k
  | eq=>rw [←S.same.1 h2,h1];nofun
  | lt=>rw [S.tr h1 h2];nofun
theorem Srt.lt_t {α:Type} (S:Srt α) {a b:α}:ordI (S.cmp a b)<0↔S.cmp a b=.lt:=by cases S.cmp a b <;> simp [ordI]
theorem setAt {α:Type} (p:List α) (x y:α) (q:List α):(p++x::q).set p.length y=p++y::q:=by simp
theorem Srt.swap_ev {α:Type} (S:Srt α) (pre A mid B post:List α) (hAB:A.length=B.length) (hl:(pre++A++mid++B++post).length≤1000000000):
  Ev (fun k=>S.swp0 k (pre++A++mid++B++post) (pre.length:Int) ((pre.length+A.length+mid.length:Nat):Int) (A.length:Int) 0) (pre++B++mid++A++post):=by
 have key:∀(A2 A1 B1 B2:List α),A=A1++A2→B=B1++B2→A1.length=B1.length→Wp (fun k=>S.swp0 k (pre++(B1++A2)++mid++(A1++B2)++post) (pre.length:Int) ((pre.length+A.length+mid.length:Nat):Int) (A.length:Int) (A1.length:Int)) (fun r=>r=pre++B++mid++A++post):=by
  intro A2
  induction A2 with
  | nil=>
   intro A1 B1 B2 hA hB h1
   rw [List.append_nil] at hA
   subst hA
   have:B2=[]:=by rw [hB,List.length_append] at hAB;exact List.length_eq_zero_iff.1 (by omega)
   subst this
   refine Wp.step (fun k=>S.eswp _ _ _ _ _ _) (Wp.itef (by omega) (Wp.ret ?_))
   rw [hB];simp
  | cons a A2 ih=>
   intro A1 B1 B2 hA hB h1
   obtain ⟨b,B2,rfl⟩:∃b B',B2=b::B':=by
    cases B2 with
    | nil=>rw [hA,hB] at hAB;simp at hAB;omega
    | cons b B'=>exact ⟨b,B',rfl⟩
   have hlA:A.length=A1.length+1+A2.length:=by rw [hA];simp;omega
   have hlB:B.length=B1.length+1+B2.length:=by rw [hB];simp;omega
   have hlen:(pre++(B1++a::A2)++mid++(A1++b::B2)++post).length=(pre++A++mid++B++post).length:=by simp;omega
   have hl2:(pre++A++mid++B++post).length=pre.length+A.length+mid.length+B.length+post.length:=by simp;omega
   refine Wp.step (fun k=>S.eswp _ _ _ _ _ _) ?_
   have ea:wrap64 ((pre.length:Int)+A1.length)=((pre++B1).length:Int):=by rw [wrap_id (by omega) (by omega)];simp;omega
   have eb:wrap64 (((pre.length+A.length+mid.length:Nat):Int)+A1.length)=((pre++(B1++a::A2)++mid++A1).length:Int):=by rw [wrap_id (by omega) (by omega)];simp;omega
   have x1:pre++(B1++a::A2)++mid++(A1++b::B2)++post=(pre++B1)++a::(A2++mid++(A1++b::B2)++post):=by simp
   have x2:pre++(B1++a::A2)++mid++(A1++b::B2)++post=(pre++(B1++a::A2)++mid++A1)++b::(B2++post):=by simp
   have ra:rdOf S.z (pre++(B1++a::A2)++mid++(A1++b::B2)++post) ((pre++B1).length:Int)=a:=by rw [x1];exact rdOf_at _ _ _ _
   have rb:rdOf S.z (pre++(B1++a::A2)++mid++(A1++b::B2)++post) ((pre++(B1++a::A2)++mid++A1).length:Int)=b:=by rw [x2];exact rdOf_at _ _ _ _
   rw [ea,eb,ra,rb,toNatCast,toNatCast]
   have s1:(pre++(B1++a::A2)++mid++(A1++b::B2)++post).set (pre++B1).length b=(pre++(B1++b::A2)++mid++A1)++b::(B2++post):=by rw [x1,setAt];simp
   have s2:(pre++(B1++a::A2)++mid++A1).length=(pre++(B1++b::A2)++mid++A1).length:=by simp
   rw [s1,s2,setAt,wrap_id (x:=(A1.length:Int)+1) (by omega) (by omega)]
   have g1:((pre++B1).length:Int)<((pre++(B1++a::A2)++mid++(A1++b::B2)++post).length:Int):=by simp;omega
   have g2:((pre++(B1++b::A2)++mid++A1).length:Int)<((pre++(B1++a::A2)++mid++(A1++b::B2)++post).length:Int):=by simp;omega
   have g3:((pre++(B1++b::A2)++mid++A1).length:Int)<(((pre++(B1++b::A2)++mid++A1)++b::(B2++post)).length:Int):=by simp;omega
   refine Wp.itet (by omega) (Wp.itet (Int.natCast_nonneg _) (Wp.itet g2 (Wp.itet (Int.natCast_nonneg _) (Wp.itet g1 (Wp.itet g3 ?_)))))
   have:=ih (A1++[a]) (B1++[b]) B2 (by rw [hA];simp) (by rw [hB];simp) (by simp [h1])
   rw [show pre++(B1++[b]++A2)++mid++(A1++[a]++B2)++post=pre++(B1++b::A2)++mid++A1++a::(B2++post) from by simp,show (((A1++[a]).length:Nat):Int)=(A1.length:Int)+1 from by simp] at this
   exact this
 exact (key A [] [] B rfl rfl rfl).ev
theorem Srt.rot_ev {α:Type} (S:Srt α):∀(n:Nat) (pre X Y post:List α),X.length+Y.length≤n→X≠[]→Y≠[]→(pre++X++Y++post).length≤1000000000→
  Ev (fun k=>S.rot0 k (pre++X++Y++post) ((pre.length+X.length:Nat):Int) (X.length:Int) (Y.length:Int)) (pre++Y++X++post):=by
 intro n
 induction n with
 | zero=>intro pre X Y post h hX;exact absurd (List.length_eq_zero_iff.1 (by omega)) hX
 | succ n ih=>
  intro pre X Y post h hX hY hl
  have hl2:(pre++X++Y++post).length=pre.length+X.length+Y.length+post.length:=by simp;omega
  have x0:0<X.length:=List.length_pos_iff.2 hX
  have y0:0<Y.length:=List.length_pos_iff.2 hY
  rw [hl2] at hl
  have e1:wrap64 (((pre.length+X.length:Nat):Int) - X.length)=(pre.length:Int):=by rw [wrap_id (by omega) (by omega)];omega
  refine Wp.ev (Wp.step (fun k=>S.erot _ _ _ _ _) ?_)
  rw [e1]
  refine Wp.ite (fun hc=>?_) (fun hc=>Wp.ite (fun hg=>?_) (fun hg=>?_))
  ·have:=S.swap_ev pre X [] Y post (by omega) (by simp;omega)
   simp only [List.append_nil,List.length_nil,Nat.add_zero] at this
   exact Wp.bindE this (Wp.ret rfl)
  ·obtain ⟨X1,X2,rfl,h1⟩:∃X1 X2,X=X1++X2∧X1.length=Y.length:=⟨X.take Y.length,X.drop Y.length,(List.take_append_drop _ _).symm,by rw [List.length_take];omega⟩
   have hx:(X1++X2).length=X1.length+X2.length:=List.length_append
   have:=S.swap_ev pre X1 X2 Y post h1 (by simp;omega)
   have x1:pre++(X1++X2)++Y++post=pre++X1++X2++Y++post:=by simp
   rw [h1] at this
   rw [x1,show ((pre.length+(X1++X2).length:Nat):Int)=((pre.length+Y.length+X2.length:Nat):Int) from by omega]
   refine Wp.bindE this ?_
   have h3:=ih (pre++Y) X2 X1 post (by omega) (by intro h;rw [h] at hg hx;simp at hg hx;omega) (by intro h;rw [h] at h1;simp at h1;omega) (by simp;omega)
   rw [wrap_id (by omega) (by omega)]
   rw [show (((pre++Y).length+X2.length:Nat):Int)=((pre.length+Y.length+X2.length:Nat):Int) from by simp,show (X2.length:Int)=((X1++X2).length:Int) - Y.length from by omega,show (X1.length:Int)=(Y.length:Int) from by omega] at h3
   exact h3.wp (by simp)
  ·obtain ⟨Y1,Y2,rfl,h1⟩:∃Y1 Y2,Y=Y1++Y2∧Y2.length=X.length:=⟨Y.take (Y.length - X.length),Y.drop (Y.length - X.length),(List.take_append_drop _ _).symm,by rw [List.length_drop];omega⟩
   have hy:(Y1++Y2).length=Y1.length+Y2.length:=List.length_append
   have:=S.swap_ev pre X Y1 Y2 post h1.symm (by simp;omega)
   have e2:wrap64 ((wrap64 (((pre.length+X.length:Nat):Int)+((Y1++Y2).length:Int))) - X.length)=((pre.length+X.length+Y1.length:Nat):Int):=by
    rw [wrap_id (x:=((pre.length+X.length:Nat):Int)+((Y1++Y2).length:Int)) (by omega) (by omega),wrap_id (by omega) (by omega)];omega
   rw [e2,show pre++X++(Y1++Y2)++post=pre++X++Y1++Y2++post from by simp]
   refine Wp.bindE this ?_
   have h3:=ih pre Y2 Y1 (X++post) (by omega) (by intro h;rw [h] at h1;simp at h1;omega) (by intro h;rw [h] at hy hc;simp at hc hy;omega) (by simp;omega)
   rw [wrap_id (by omega) (by omega)]
   rw [show pre++Y2++Y1++(X++post)=pre++Y2++Y1++X++post from by simp,show ((pre.length+Y2.length:Nat):Int)=((pre.length+X.length:Nat):Int) from by omega,show (Y2.length:Int)=(X.length:Int) from by omega,show (Y1.length:Int)=((Y1++Y2).length:Int) - X.length from by omega] at h3
   exact h3.wp (by simp)
def Srt.ord {α:Type} (S:Srt α) (l:List α):Prop:=l.Pairwise S.le
theorem Srt.ord_app {α:Type} (S:Srt α) {l k:List α}:S.ord (l++k)↔S.ord l∧S.ord k∧∀a∈l,∀b∈k,S.le a b:=List.pairwise_append
theorem Srt.test {α ρ:Type} {P:ρ→Prop} (S:Srt α) {a b:α} (qa:S.Q a) (qb:S.Q b) {A B:Nat→Option ρ} (h:S.cmp a b=.lt→Wp A P) (k:¬S.cmp a b=.lt→Wp B P):
  Wp (fun k=>(S.cmpE k a b).bind fun t=>if t<0 then A k else B k) P:=
 Wp.bindE (S.hcmp a b qa qb) (Wp.ite (fun hc=>h (S.lt_t.1 hc)) (fun hc=>k (fun e=>hc (S.lt_t.2 e))))
theorem rd_fst {α:Type} (z:α) (p:List α) (u v:α) (q:List α):rdOf z (p++u::v::q) (p.length:Int)=u:=rdOf_at _ _ _ _
theorem rd_snd {α:Type} (z:α) (p:List α) (u v:α) (q:List α):rdOf z (p++u::v::q) ((p.length+1:Nat):Int)=v:=by
 have:=rdOf_at z (p++[u]) v q
 rw [show p++[u]++v::q=p++u::v::q from by simp,show (p++[u]).length=p.length+1 from by simp] at this
 exact this
theorem adj {α:Type} (p:List α) (u v:α) (q:List α):((p++u::v::q).set p.length v).set (p.length+1) u=p++v::u::q:=by
 rw [setAt]
 have:=setAt (p++[v]) v u q
 rw [show p++[v]++v::q=p++v::v::q from by simp,show (p++[v]).length=p.length+1 from by simp,show p++[v]++u::q=p++v::u::q from by simp] at this
 exact this
theorem adj' {α:Type} (p:List α) (u v:α) (q:List α):((p++u::v::q).set (p.length+1) u).set p.length v=p++v::u::q:=by
 have:=setAt (p++[u]) v u q
 rw [show p++[u]++v::q=p++u::v::q from by simp,show (p++[u]).length=p.length+1 from by simp,show p++[u]++u::q=p++u::u::q from by simp] at this
 rw [this,setAt]
theorem lastOf {α:Type} (l:List α) (h:l≠[]):∃p x,l=p++[x]:=⟨l.dropLast,l.getLast h,(List.dropLast_concat_getLast h).symm⟩
theorem Srt.ins1_wp {α:Type} {R:List α→Prop} (S:Srt α) (pre t post:List α) (a b i:Int) (ha:a=(pre.length:Int)):
  ∀(n:Nat) (s1:List α) (x:α) (s2:List α),s1.length=n→(pre++s1++x::s2++t++post).length≤1000000000→(∀y∈s1++x::s2,S.Q y)→S.ord (s1++s2)→(∀y∈s2,S.le x y)→
  (∀s',S.ord s'→s'.Perm (s1++x::s2)→Wp (fun k=>S.ins0 k (pre++s'++t++post) a b (wrap64 (i+1))) R)→
  Wp (fun k=>S.ins1 k (pre++s1++x::s2++t++post) a b i ((pre.length+s1.length:Nat):Int)) R:=by
 subst ha
 intro n
 induction n with
 | zero=>
  intro s1 x s2 hn hl hQ ho hx k
  have:s1=[]:=List.length_eq_zero_iff.1 hn
  subst this
  refine Wp.step (fun k=>S.eins1 _ _ _ _ _ _) (Wp.itef (by simp) ?_)
  have:=k (x::s2) (List.pairwise_cons.2 ⟨hx,ho⟩) (List.Perm.refl _)
  simpa using this
 | succ n ih=>
  intro s1 x s2 hn hl hQ ho hx k
  obtain ⟨s1,y,rfl⟩:=lastOf s1 (by intro h;rw [h] at hn;simp at hn)
  have hn':s1.length=n:=by simpa using hn
  have hl':(pre++(s1++[y])++x::s2++t++post).length=pre.length+s1.length+2+s2.length+t.length+post.length:=by simp;omega
  rw [hl'] at hl
  have e:pre++(s1++[y])++x::s2++t++post=(pre++s1)++y::x::(s2++t++post):=by simp
  have en:((pre.length+(s1++[y]).length:Nat):Int)=(((pre++s1).length+1:Nat):Int):=by simp;omega
  have e1:wrap64 ((((pre++s1).length+1:Nat):Int) - 1)=((pre++s1).length:Int):=by rw [wrap_id (by simp;omega) (by simp;omega)];omega
  refine Wp.step (fun k=>S.eins1 _ _ _ _ _ _) ?_
  rw [en,e1,e,rd_fst,rd_snd,toNatCast,toNatCast,adj']
  have hlen:((pre++s1)++y::x::(s2++t++post)).length=pre.length+s1.length+2+s2.length+t.length+post.length:=by rw [←e,hl']
  have hps:(pre++s1).length=pre.length+s1.length:=by simp
  refine Wp.itet (by rw [hps];omega) (Wp.itet (by omega) (Wp.itet (by rw [hlen,hps];omega) (Wp.itet (by omega) (Wp.itet (by rw [hlen,hps];omega) (S.test (hQ x (by simp)) (hQ y (by simp)) (fun hc=>?_) (fun hc=>?_))))))
  ·refine Wp.itet (by rw [List.length_set,hlen,hps];omega) ?_
   have:=ih s1 x (y::s2) hn' (by simp;omega) (fun w hw=>hQ w (by simp at hw⊢;rcases hw with h | h | h | h <;> simp [h])) (by simpa using ho) (fun w hw=>by
    rcases List.mem_cons.1 hw with rfl | hw
    ·exact S.le_of_lt hc
    ·exact hx w hw) (fun s' o p=>k s' o (p.trans (by
     have:(x::y::s2).Perm (y::x::s2):=List.Perm.swap _ _ _
     have:=List.Perm.append_left s1 this
     simpa using this)))
   rw [show pre++s1++x::y::s2++t++post=(pre++s1)++x::y::(s2++t++post) from by simp] at this
   rw [hps]
   exact this
  ·have hyx:=S.le_nlt hc
   have o:S.ord (s1++[y]++x::s2):=by
    obtain ⟨o1,o2,o3⟩:=S.ord_app.1 ho
    refine S.ord_app.2 ⟨o1,List.pairwise_cons.2 ⟨hx,o2⟩,fun u hu v hv=>?_⟩
    have huy:S.le u y:=by
     rcases List.mem_append.1 hu with h | h
     ·exact (S.ord_app.1 o1).2.2 u h y (by simp)
     ·rw [List.mem_singleton.1 h];exact S.le_refl y
    rcases List.mem_cons.1 hv with rfl | hv
    ·exact S.le_tr huy hyx
    ·exact o3 u hu v hv
   have:=k _ o (List.Perm.refl _)
   rw [show pre++(s1++[y]++x::s2)++t++post=(pre++s1)++y::x::(s2++t++post) from by simp] at this
   exact this
theorem Srt.ins0_wp {α:Type} (S:Srt α) (pre post:List α) (a b:Int) (ha:a=(pre.length:Int)):
  ∀(t s:List α),b=((pre.length+s.length+t.length:Nat):Int)→(pre++s++t++post).length≤1000000000→(∀y∈s++t,S.Q y)→S.ord s→
  Wp (fun k=>S.ins0 k (pre++s++t++post) a b ((pre.length+s.length:Nat):Int)) (fun r=>∃s',r=pre++s'++post∧S.ord s'∧s'.Perm (s++t)):=by
 intro t
 induction t with
 | nil=>
  intro s hb hl hQ ho
  refine Wp.step (fun k=>S.eins0 _ _ _ _ _) (Wp.itef (by rw [hb];simp) (Wp.ret ⟨s,by simp,ho,by simp⟩))
 | cons x t ih=>
  intro s hb hl hQ ho
  have hl':(pre++s++x::t++post).length=pre.length+s.length+1+t.length+post.length:=by simp;omega
  rw [hl'] at hl
  refine Wp.step (fun k=>S.eins0 _ _ _ _ _) (Wp.itet (by rw [hb,List.length_cons];omega) ?_)
  have:=S.ins1_wp (R:=fun r=>∃s',r=pre++s'++post∧S.ord s'∧s'.Perm (s++x::t)) pre t post a b ((pre.length+s.length:Nat):Int) ha s.length s x [] rfl (by simp;omega) (fun y hy=>hQ y (by simp at hy⊢;rcases hy with h | h <;> simp [h])) (by simpa using ho) (by simp) (fun s' o p=>by
   have hlen:s'.length=s.length+1:=by rw [p.length_eq];simp
   have:=ih s' (by rw [hb,hlen,List.length_cons];omega) (by simp;omega) (fun y hy=>by
    rcases List.mem_append.1 hy with h | h
    ·exact hQ y (by have:=p.mem_iff.1 h;simp at this⊢;rcases this with h | h <;> simp [h])
    ·exact hQ y (by simp [h])) o
   rw [wrap_id (by omega) (by omega),show ((pre.length+s.length:Nat):Int)+1=((pre.length+s'.length:Nat):Int) from by omega]
   refine this.mono fun r ⟨s2,e,o2,p2⟩=>⟨s2,e,o2,p2.trans ?_⟩
   have:=List.Perm.append_right t p
   simpa using this)
  rw [show pre++s++[x]++t++post=pre++s++x::t++post from by simp] at this
  exact this
theorem Srt.ins_wp {α:Type} (S:Srt α) (pre s post:List α) (hl:(pre++s++post).length≤1000000000) (hQ:∀y∈s,S.Q y):
  Wp (fun k=>S.ins0 k (pre++s++post) (pre.length:Int) ((pre.length+s.length:Nat):Int) (wrap64 ((pre.length:Int)+1))) (fun r=>∃s',r=pre++s'++post∧S.ord s'∧s'.Perm s):=by
 have hl':(pre++s++post).length=pre.length+s.length+post.length:=by simp;omega
 rw [hl'] at hl
 rw [wrap_id (by omega) (by omega)]
 cases s with
 | nil=>exact Wp.step (fun k=>S.eins0 _ _ _ _ _) (Wp.itef (by simp;omega) (Wp.ret ⟨[],by simp,List.Pairwise.nil,List.Perm.refl _⟩))
 | cons x t=>
  have:=S.ins0_wp pre post (pre.length:Int) ((pre.length+(x::t).length:Nat):Int) rfl t [x] (by simp;omega) (by simp at hl⊢;omega) (by simpa using hQ) (List.pairwise_singleton _ _)
  rw [show pre++[x]++t++post=pre++x::t++post from by simp,show ((pre.length+[x].length:Nat):Int)=(pre.length:Int)+1 from by simp] at this
  simpa using this
theorem Srt.sy1_wp {α:Type} (S:Srt α) (x:α) (post:List α) (i:Int):∀(Y pre:List α),i=((pre.length+Y.length+1:Nat):Int)→(pre++x::Y++post).length≤1000000000→
  Ev (fun k=>S.sy1 k (pre++x::Y++post) i (pre.length:Int)) (pre++Y++x::post):=by
 intro Y
 induction Y with
 | nil=>
  intro pre hi hl
  have hl':(pre++[x]++post).length=pre.length+1+post.length:=by simp;omega
  rw [hl'] at hl
  have e1:wrap64 (i - 1)=(pre.length:Int):=by rw [hi,List.length_nil,wrap_id (by omega) (by omega)];omega
  rw [show pre++x::[]++post=pre++[x]++post from rfl]
  refine Wp.ev (Wp.step (fun k=>S.esy1 _ _ _ _) (Wp.itef (by rw [e1];omega) (Wp.ret (by simp))))
 | cons y Y ih=>
  intro pre hi hl
  have e:pre++x::y::Y++post=pre++x::y::(Y++post):=by simp
  have hlen:(pre++x::y::(Y++post)).length=pre.length+2+Y.length+post.length:=by simp;omega
  rw [e,hlen] at hl
  rw [List.length_cons] at hi
  have e1:wrap64 ((pre.length:Int)+1)=((pre.length+1:Nat):Int):=by rw [wrap_id (by omega) (by omega)];omega
  have e2:wrap64 (i - 1)=((pre.length+(Y.length+1):Nat):Int):=by rw [wrap_id (by omega) (by omega)];omega
  refine Wp.ev (Wp.step (fun k=>S.esy1 _ _ _ _) ?_)
  rw [e,e1,e2,rd_fst,rd_snd,toNatCast,toNatCast,adj,List.length_set,hlen]
  refine Wp.itet (by omega) (Wp.itet (by omega) (Wp.itet (by omega) (Wp.itet (by omega) (Wp.itet (by omega) (Wp.itet (by omega) ?_)))))
  have:=ih (pre++[y]) (by simp;omega) (by simp;omega)
  rw [show pre++[y]++x::Y++post=pre++y::x::(Y++post) from by simp,show (((pre++[y]).length:Nat):Int)=((pre.length+1:Nat):Int) from by simp] at this
  exact this.wp (by simp)
theorem Srt.sy3_wp {α:Type} (S:Srt α) (pre:List α) (x:α):∀(n:Nat) (X post:List α),X.length=n→(pre++X++x::post).length≤1000000000→
  Ev (fun k=>S.sy3 k (pre++X++x::post) (pre.length:Int) ((pre.length+X.length:Nat):Int)) (pre++x::X++post):=by
 intro n
 induction n with
 | zero=>
  intro X post hn hl
  have:X=[]:=List.length_eq_zero_iff.1 hn
  subst this
  exact Wp.ev (Wp.step (fun k=>S.esy3 _ _ _ _) (Wp.itef (by simp) (Wp.ret (by simp))))
 | succ n ih=>
  intro X post hn hl
  obtain ⟨X,y,rfl⟩:=lastOf X (by intro h;rw [h] at hn;simp at hn)
  have e:pre++(X++[y])++x::post=(pre++X)++y::x::post:=by simp
  have hlen:((pre++X)++y::x::post).length=pre.length+X.length+2+post.length:=by simp;omega
  rw [e,hlen] at hl
  have hps:(pre++X).length=pre.length+X.length:=by simp
  have en:((pre.length+(X++[y]).length:Nat):Int)=(((pre++X).length+1:Nat):Int):=by simp;omega
  have e1:wrap64 ((((pre++X).length+1:Nat):Int) - 1)=((pre++X).length:Int):=by rw [wrap_id (by omega) (by omega)];omega
  refine Wp.ev (Wp.step (fun k=>S.esy3 _ _ _ _) ?_)
  rw [en,e1,e,rd_fst,rd_snd,toNatCast,toNatCast,adj',List.length_set,hlen]
  refine Wp.itet (by omega) (Wp.itet (by omega) (Wp.itet (by omega) (Wp.itet (by omega) (Wp.itet (by omega) (Wp.itet (by omega) ?_)))))
  have:=ih X (y::post) (by simpa using hn) (by simp;omega)
  rw [show pre++X++x::y::post=(pre++X)++x::y::post from by simp,←hps] at this
  exact this.wp (by simp)
theorem Wp.halves {ρ:Type} {P:ρ→Prop} (L:Nat→Int→Int→Option ρ) (T:Nat→Prop) (lo hi:Nat) (hlh:lo≤hi) (hhi:hi≤2000000000)
  (step:∀i j:Nat,lo≤i→i<j→j≤hi→∀c:Nat,c=(i+j) / 2→i≤c→c<j→(T c→Wp (fun k=>L k ((c+1:Nat):Int) (j:Int)) P)→(¬T c→Wp (fun k=>L k (i:Int) (c:Int)) P)→Wp (fun k=>L k (i:Int) (j:Int)) P)
  (stop:∀i:Nat,lo≤i→i≤hi→(lo<i→T (i - 1))→(i<hi→¬T i)→Wp (fun k=>L k (i:Int) (i:Int)) P):Wp (fun k=>L k (lo:Int) (hi:Int)) P:=by
 have key:∀(n i j:Nat),j - i≤n→lo≤i→i≤j→j≤hi→(lo<i→T (i - 1))→(j<hi→¬T j)→Wp (fun k=>L k (i:Int) (j:Int)) P:=by
  intro n
  induction n with
  | zero=>
   intro i j h h0 h1 h2 t f
   have:i=j:=by omega
   subst this
   exact stop i h0 h2 t f
  | succ n ih=>
   intro i j h h0 h1 h2 t f
   rcases Nat.lt_or_eq_of_le h1 with h3 | h3
   ·refine step i j h0 h3 h2 ((i+j) / 2) rfl (by omega) (by omega) (fun ht=>?_) (fun hf=>?_)
    ·exact ih ((i+j) / 2+1) j (by omega) (by omega) (by omega) h2 (fun _=>by rw [Nat.add_sub_cancel];exact ht) f
    ·exact ih i ((i+j) / 2) (by omega) h0 (by omega) (by omega) t (fun _=>hf)
   ·subst h3
    exact stop i h0 h2 t f
 exact key (hi - lo) lo hi (Nat.le_refl _) (Nat.le_refl _) hlh (Nat.le_refl _) (fun h=>absurd h (Nat.lt_irrefl _)) (fun h=>absurd h (Nat.lt_irrefl _))
theorem rd_mid {α:Type} (z:α) (p:List α) (x:α) (q:List α) (n:Nat) (h:n=p.length):rdOf z (p++x::q) (n:Int)=x:=by subst h;exact rdOf_at _ _ _ _
theorem rd_in {α:Type} (z:α) (pre X post:List α) (n:Nat) (h0:pre.length≤n) (h1:n<pre.length+X.length):rdOf z (pre++X++post) (n:Int)∈X:=by
 obtain ⟨A,x,B,rfl,hA⟩:∃A x B,X=A++x::B∧A.length=n - pre.length:=by
  refine ⟨X.take (n - pre.length),X[n - pre.length]'(by omega),X.drop (n - pre.length+1),?_,by rw [List.length_take];omega⟩
  rw [List.getElem_cons_drop,List.take_append_drop]
 rw [show pre++(A++x::B)++post=(pre++A)++x::(B++post) from by simp,rd_mid z (pre++A) x (B++post) n (by simp;omega)]
 simp
theorem Srt.cut {α:Type} (S:Srt α) {A B:List α} (ha:S.ord A) (hb:S.ord B) (h:∀A' x y B',A=A'++[x]→B=y::B'→S.le x y):∀u∈A,∀v∈B,S.le u v:=by
 intro u hu v hv
 obtain ⟨A',x,rfl⟩:=lastOf A (by intro e;rw [e] at hu;simp at hu)
 cases B with
 | nil=>simp at hv
 | cons y B'=>
  have hxy:=h A' x y B' rfl rfl
  have h1:S.le u x:=by
   rcases List.mem_append.1 hu with h | h
   ·exact (S.ord_app.1 ha).2.2 u h x (by simp)
   ·rw [List.mem_singleton.1 h];exact S.le_refl x
  have h2:S.le y v:=by
   rcases List.mem_cons.1 hv with rfl | h
   ·exact S.le_refl v
   ·exact (List.pairwise_cons.1 hb).1 v h
  exact S.le_tr (S.le_tr h1 hxy) h2
theorem splitAt_ {α:Type} (l:List α) (n:Nat) (h:n≤l.length):∃A B,l=A++B∧A.length=n:=⟨l.take n,l.drop n,(List.take_append_drop _ _).symm,by rw [List.length_take];omega⟩
theorem Srt.half {α:Type} {P:List α→Prop} (S:Srt α) (pre X Y post:List α) (a i m:Nat) (ha:a=pre.length) (hi:i=pre.length+X.length) (hm:m=pre.length+X.length+Y.length) (G:List α→Nat→Option (List α))
  (oX:S.ord X) (oY:S.ord Y)
  (hs:X≠[]→Y≠[]→Wp (fun k=>S.sy k (pre++X++Y++post) (pre.length:Int) ((pre.length+X.length:Nat):Int) ((pre.length+X.length+Y.length:Nat):Int)) (fun r=>∃Z,r=pre++Z++post∧S.ord Z∧Z.Perm (X++Y)))
  (h:∀Z,S.ord Z→Z.Perm (X++Y)→Wp (fun k=>G (pre++Z++post) k) P):
  Wp (fun k=>if (a:Int)<(i:Int) then (if (i:Int)<(m:Int) then ((S.sy k (pre++X++Y++post) a i m).bind fun t=>G t k) else G (pre++X++Y++post) k) else G (pre++X++Y++post) k) P:=by
 subst ha hi hm
 refine Wp.ite (fun h1=>Wp.ite (fun h2=>?_) (fun h2=>?_)) (fun h1=>?_)
 ·refine Wp.bind (hs (by intro e;rw [e] at h1;simp at h1) (by intro e;rw [e] at h2;simp at h2)) fun v ⟨Z,e,o,p⟩=>?_
  rw [e];exact h Z o p
 ·have:Y=[]:=List.length_eq_zero_iff.1 (by omega)
  subst this
  have:=h X oX (by simp)
  simpa using this
 ·have:X=[]:=List.length_eq_zero_iff.1 (by omega)
  subst this
  have:=h Y oY (by simp)
  simpa using this
theorem Srt.fin_wp {α:Type} (S:Srt α) (pre X1 X2 Y1 Y2 post:List α) (hl:(pre++(X1++X2)++(Y1++Y2)++post).length≤1000000000)
  (oX1:S.ord X1) (oX2:S.ord X2) (oY1:S.ord Y1) (oY2:S.ord Y2) (cX:∀u∈X1,∀v∈X2,S.le u v) (cA:∀u∈X1,∀v∈Y2,S.le u v) (cB:∀u∈Y1,∀v∈X2,S.le u v) (cY:∀u∈Y1,∀v∈Y2,S.le u v)
  (i M m b e:Nat) (hi:i=pre.length+X1.length) (hM:M=i+Y1.length) (hm:m=i+X2.length) (he:e=m+Y1.length) (hb:b=e+Y2.length)
  (ihA:X1≠[]→Y1≠[]→Wp (fun k=>S.sy k (pre++X1++Y1++(X2++Y2++post)) (pre.length:Int) ((pre.length+X1.length:Nat):Int) ((pre.length+X1.length+Y1.length:Nat):Int)) (fun r=>∃Z,r=pre++Z++(X2++Y2++post)∧S.ord Z∧Z.Perm (X1++Y1)))
  (ihB:∀p:List α,p.length=M→X2≠[]→Y2≠[]→Wp (fun k=>S.sy k (p++X2++Y2++post) (p.length:Int) ((p.length+X2.length:Nat):Int) ((p.length+X2.length+Y2.length:Nat):Int)) (fun r=>∃Z,r=p++Z++post∧S.ord Z∧Z.Perm (X2++Y2))):
  Wp (fun k=>if (i:Int)<(m:Int) then (if (m:Int)<(e:Int) then ((S.rot0 k (pre++(X1++X2)++(Y1++Y2)++post) m (wrap64 ((m:Int) - (i:Int))) (wrap64 ((e:Int) - (m:Int)))).bind fun t=>S.j0 k t pre.length b M i e) else S.j0 k (pre++(X1++X2)++(Y1++Y2)++post) pre.length b M i e) else S.j0 k (pre++(X1++X2)++(Y1++Y2)++post) pre.length b M i e)
   (fun r=>∃Z,r=pre++Z++post∧S.ord Z∧Z.Perm (X1++X2++(Y1++Y2))):=by
 have hlen:(pre++(X1++X2)++(Y1++Y2)++post).length=pre.length+X1.length+X2.length+Y1.length+Y2.length+post.length:=by simp;omega
 rw [hlen] at hl
 have join:Wp (fun k=>S.j0 k (pre++(X1++Y1)++(X2++Y2)++post) (pre.length:Int) (b:Int) (M:Int) (i:Int) (e:Int)) (fun r=>∃Z,r=pre++Z++post∧S.ord Z∧Z.Perm (X1++X2++(Y1++Y2))):=by
  refine Wp.step (fun k=>S.ej0 _ _ _ _ _ _ _) ?_
  rw [show pre++(X1++Y1)++(X2++Y2)++post=pre++X1++Y1++(X2++Y2++post) from by simp]
  refine S.half pre X1 Y1 (X2++Y2++post) pre.length i M rfl hi (by omega) (fun t k=>S.j1 k t (b:Int) (M:Int) (e:Int)) oX1 oY1 ihA fun Z1 oZ1 pZ1=>?_
  have lz:Z1.length=X1.length+Y1.length:=by rw [pZ1.length_eq,List.length_append]
  refine Wp.step (fun k=>S.ej1 _ _ _ _ _) ?_
  rw [show pre++Z1++(X2++Y2++post)=(pre++Z1)++X2++Y2++post from by simp]
  have lp:(pre++Z1).length=pre.length+Z1.length:=List.length_append
  refine S.half (pre++Z1) X2 Y2 post M e b (by omega) (by omega) (by omega) (fun t k=>some t) oX2 oY2 (ihB (pre++Z1) (by omega)) fun Z2 oZ2 pZ2=>?_
  refine Wp.ret ⟨Z1++Z2,by simp,S.ord_app.2 ⟨oZ1,oZ2,fun u hu v hv=>?_⟩,?_⟩
  ·rcases List.mem_append.1 (pZ1.mem_iff.1 hu) with h | h <;> rcases List.mem_append.1 (pZ2.mem_iff.1 hv) with h' | h'
   ·exact cX u h v h'
   ·exact cA u h v h'
   ·exact cB u h v h'
   ·exact cY u h v h'
  ·have e1:(Z1++Z2).Perm ((X1++Y1)++(X2++Y2)):=List.Perm.append pZ1 pZ2
   have e2:(X1++(Y1++X2)++Y2).Perm (X1++(X2++Y1)++Y2):=List.Perm.append_right _ (List.Perm.append_left _ List.perm_append_comm)
   rw [show (X1++Y1)++(X2++Y2)=X1++(Y1++X2)++Y2 from by simp] at e1
   rw [show X1++X2++(Y1++Y2)=X1++(X2++Y1)++Y2 from by simp]
   exact e1.trans e2
 refine Wp.ite (fun h3=>Wp.ite (fun h4=>?_) (fun h4=>?_)) (fun h3=>?_)
 ·have r:=S.rot_ev (X2.length+Y1.length) (pre++X1) X2 Y1 (Y2++post) (Nat.le_refl _) (by intro e;rw [e,List.length_nil] at hm;omega) (by intro e;rw [e,List.length_nil] at he;omega) (by simp;omega)
  rw [show pre++X1++X2++Y1++(Y2++post)=pre++(X1++X2)++(Y1++Y2)++post from by simp,show (((pre++X1).length+X2.length:Nat):Int)=(m:Int) from by rw [List.length_append];omega] at r
  rw [show wrap64 ((m:Int) - (i:Int))=(X2.length:Int) from by rw [wrap_id (by omega) (by omega)];omega,show wrap64 ((e:Int) - (m:Int))=(Y1.length:Int) from by rw [wrap_id (by omega) (by omega)];omega]
  refine Wp.bindE r ?_
  rw [show pre++X1++Y1++X2++(Y2++post)=pre++(X1++Y1)++(X2++Y2)++post from by simp]
  exact join
 ·have:Y1=[]:=List.length_eq_zero_iff.1 (by omega)
  subst this
  rw [show pre++(X1++X2)++([]++Y2)++post=pre++(X1++[])++(X2++Y2)++post from by simp]
  exact join
 ·have:X2=[]:=List.length_eq_zero_iff.1 (by omega)
  subst this
  rw [show pre++(X1++[])++(Y1++Y2)++post=pre++(X1++Y1)++([]++Y2)++post from by simp]
  exact join
theorem rd_i {α:Type} (z:α) (l p:List α) (x:α) (q:List α) (n:Nat) (e:l=p++x::q) (h:n=p.length):rdOf z l (n:Int)=x:=by rw [e];exact rd_mid z p x q n h
theorem Srt.sy4_wp {α:Type} (S:Srt α) (n:Nat) (ih:∀(pre X Y post:List α),X.length+Y.length≤n→X≠[]→Y≠[]→(pre++X++Y++post).length≤1000000000→(∀y∈X++Y,S.Q y)→S.ord X→S.ord Y→
  Wp (fun k=>S.sy k (pre++X++Y++post) (pre.length:Int) ((pre.length+X.length:Nat):Int) ((pre.length+X.length+Y.length:Nat):Int)) (fun r=>∃Z,r=pre++Z++post∧S.ord Z∧Z.Perm (X++Y)))
  (pre X Y post:List α) (h:X.length+Y.length≤n+1) (x0:0<X.length) (y0:0<Y.length) (hl:pre.length+X.length+Y.length+post.length≤1000000000) (qx:∀y∈X,S.Q y) (qy:∀y∈Y,S.Q y) (oX:S.ord X) (oY:S.ord Y)
  (a m b M lo hi:Nat) (ha:a=pre.length) (hm:m=pre.length+X.length) (hb:b=pre.length+X.length+Y.length) (hM:M=(a+b) / 2) (hlh:(lo=M+m - b∧hi=M∧M<m)∨(lo=a∧hi=m∧m≤M)):
  Wp (fun k=>S.sy4 k (pre++X++Y++post) (a:Int) (m:Int) (b:Int) (M:Int) ((M+m:Nat):Int) (lo:Int) (hi:Int) ((M+m - 1:Nat):Int)) (fun r=>∃Z,r=pre++Z++post∧S.ord Z∧Z.Perm (X++Y)):=by
 have hlen:(pre++X++Y++post).length=pre.length+X.length+Y.length+post.length:=by simp;omega
 refine Wp.halves (fun k i j=>S.sy4 k (pre++X++Y++post) (a:Int) (m:Int) (b:Int) (M:Int) ((M+m:Nat):Int) i j ((M+m - 1:Nat):Int))
  (fun c=>¬S.cmp (rdOf S.z (pre++X++Y++post) ((M+m - 1 - c:Nat):Int)) (rdOf S.z (pre++X++Y++post) (c:Int))=.lt) lo hi (by omega) (by omega) ?_ ?_
 ·intro i j hi2 hij hj c hc hic hcj st sf
  refine Wp.step (fun k=>S.esy4 _ _ _ _ _ _ _ _ _ _) ?_
  rw [hf_nat (by omega),←hc]
  rw [show wrap64 (((M+m - 1:Nat):Int) - (c:Int))=((M+m - 1 - c:Nat):Int) from by rw [wrap_id (by omega) (by omega)];omega]
  have mx:rdOf S.z (pre++X++Y++post) (c:Int)∈X:=by
   rw [show pre++X++Y++post=pre++X++(Y++post) from by simp]
   exact rd_in S.z pre X (Y++post) c (by omega) (by omega)
  have my:rdOf S.z (pre++X++Y++post) ((M+m - 1 - c:Nat):Int)∈Y:=rd_in S.z (pre++X) Y post _ (by rw [List.length_append];omega) (by rw [List.length_append];omega)
  rw [hlen,show wrap64 ((c:Int)+1)=((c+1:Nat):Int) from by rw [wrap_id (by omega) (by omega)];omega]
  exact Wp.itet (by omega) (Wp.itet (by omega) (Wp.itet (by omega) (Wp.itet (by omega) (Wp.itet (by omega) (S.test (qy _ my) (qx _ mx) (fun e=>sf (fun h=>h e)) st)))))
 ·intro i hi2 hj ht hf'
  refine Wp.step (fun k=>S.esy4 _ _ _ _ _ _ _ _ _ _) (Wp.itef (by omega) ?_)
  have b1:pre.length≤i:=by omega
  have b2:i≤m:=by omega
  have b3:i≤M:=by omega
  have b4:M+m≤i+b:=by omega
  have z1:i=lo→i=a∨M+m - i=b:=by omega
  have z2:i=hi→i=m∨i=M:=by omega
  have b5:M<b:=by omega
  have b6:a<M:=by omega
  clear hlh
  obtain ⟨X1,X2,rfl,hX1⟩:=splitAt_ X (i - pre.length) (by omega)
  obtain ⟨Y1,Y2,rfl,hY1⟩:=splitAt_ Y (M - i) (by omega)
  have lx:(X1++X2).length=X1.length+X2.length:=List.length_append
  have ly:(Y1++Y2).length=Y1.length+Y2.length:=List.length_append
  obtain ⟨oX1,oX2,oX3⟩:=S.ord_app.1 oX
  obtain ⟨oY1,oY2,oY3⟩:=S.ord_app.1 oY
  have cA:∀u∈X1,∀v∈Y2,S.le u v:=by
   refine S.cut oX1 oY2 fun A' x y B' e1 e2=>?_
   subst e1 e2
   have hA:(A'++[x]).length=A'.length+1:=by simp
   have hB:(y::B').length=B'.length+1:=by simp
   have h1:=ht (by omega)
   rw [rd_i S.z (pre++(A'++[x]++X2)++(Y1++y::B')++post) (pre++A') x (X2++(Y1++y::B')++post) (i - 1) (by simp) (by rw [List.length_append];omega),
    rd_i S.z (pre++(A'++[x]++X2)++(Y1++y::B')++post) (pre++(A'++[x]++X2)++Y1) y (B'++post) (M+m - 1 - (i - 1)) (by simp) (by rw [List.length_append,List.length_append];omega)] at h1
   exact S.le_nlt h1
  have cB:∀u∈Y1,∀v∈X2,S.le u v:=by
   refine S.cut oY1 oX2 fun A' x y B' e1 e2=>?_
   subst e1 e2
   have hA:(A'++[x]).length=A'.length+1:=by simp
   have hB:(y::B').length=B'.length+1:=by simp
   have h1:=Classical.not_not.1 (hf' (by omega))
   rw [rd_i S.z (pre++(X1++y::B')++(A'++[x]++Y2)++post) (pre++X1) y (B'++(A'++[x]++Y2)++post) i (by simp) (by rw [List.length_append];omega),
    rd_i S.z (pre++(X1++y::B')++(A'++[x]++Y2)++post) (pre++(X1++y::B')++A') x (Y2++post) (M+m - 1 - i) (by simp) (by rw [List.length_append,List.length_append];omega)] at h1
   exact S.le_of_lt h1
  rw [show wrap64 (((M+m:Nat):Int) - (i:Int))=((M+m - i:Nat):Int) from by rw [wrap_id (by omega) (by omega)];omega]
  subst ha
  exact S.fin_wp pre X1 X2 Y1 Y2 post (by rw [hlen];exact hl) oX1 oX2 oY1 oY2 oX3 cA cB oY3 i M m b (M+m - i) (by omega) (by omega) (by omega) (by omega) (by omega)
   (fun nx ny=>ih pre X1 Y1 (X2++Y2++post) (by omega) nx ny (by simp;omega) (fun y hy=>by
    rcases List.mem_append.1 hy with h | h
    ·exact qx y (List.mem_append_left _ h)
    ·exact qy y (List.mem_append_left _ h)) oX1 oY1)
   (fun p hp nx ny=>ih p X2 Y2 post (by omega) nx ny (by simp;omega) (fun y hy=>by
    rcases List.mem_append.1 hy with h | h
    ·exact qx y (List.mem_append_right _ h)
    ·exact qy y (List.mem_append_right _ h)) oX2 oY2)
theorem Srt.sy_wp {α:Type} (S:Srt α):∀(n:Nat) (pre X Y post:List α),X.length+Y.length≤n→X≠[]→Y≠[]→(pre++X++Y++post).length≤1000000000→(∀y∈X++Y,S.Q y)→S.ord X→S.ord Y→
  Wp (fun k=>S.sy k (pre++X++Y++post) (pre.length:Int) ((pre.length+X.length:Nat):Int) ((pre.length+X.length+Y.length:Nat):Int)) (fun r=>∃Z,r=pre++Z++post∧S.ord Z∧Z.Perm (X++Y)):=by
 intro n
 induction n with
 | zero=>intro pre X Y post h hX;exact absurd (List.length_eq_zero_iff.1 (by omega)) hX
 | succ n ih=>
  intro pre X Y post h hX hY hl hQ oX oY
  have hlen:(pre++X++Y++post).length=pre.length+X.length+Y.length+post.length:=by simp;omega
  have x0:0<X.length:=List.length_pos_iff.2 hX
  have y0:0<Y.length:=List.length_pos_iff.2 hY
  rw [hlen] at hl
  have qx:∀y∈X,S.Q y:=fun y hy=>hQ y (List.mem_append_left _ hy)
  have qy:∀y∈Y,S.Q y:=fun y hy=>hQ y (List.mem_append_right _ hy)
  refine Wp.step (fun k=>S.esy _ _ _ _ _) ?_
  rw [show wrap64 (((pre.length+X.length:Nat):Int) - (pre.length:Int))=(X.length:Int) from by rw [wrap_id (by omega) (by omega)];omega]
  rw [show wrap64 (((pre.length+X.length+Y.length:Nat):Int) - ((pre.length+X.length:Nat):Int))=(Y.length:Int) from by rw [wrap_id (by omega) (by omega)];omega]
  refine Wp.ite (fun h1=>?_) (fun h1=>Wp.ite (fun h2=>?_) (fun h2=>?_))
  ·obtain ⟨x,rfl⟩:∃x,X=[x]:=by
    cases X with
    | nil=>exact absurd rfl hX
    | cons x X=>cases X with
     | nil=>exact ⟨x,rfl⟩
     | cons y X=>simp at h1;omega
   refine Wp.halves (fun k i j=>S.sy0 k (pre++[x]++Y++post) (pre.length:Int) i j) (fun c=>S.cmp (rdOf S.z (pre++[x]++Y++post) (c:Int)) x=.lt) (pre.length+[x].length) (pre.length+[x].length+Y.length) (by omega) (by omega) ?_ ?_
   ·intro i j hi hij hj c hc hic hcj st sf
    refine Wp.step (fun k=>S.esy0 _ _ _ _ _) ?_
    rw [hf_nat (by omega),←hc]
    have hx:rdOf S.z (pre++[x]++Y++post) (pre.length:Int)=x:=by
     rw [show pre++[x]++Y++post=pre++x::(Y++post) from by simp];exact rdOf_at _ _ _ _
    have hm:rdOf S.z (pre++[x]++Y++post) (c:Int)∈Y:=rd_in S.z (pre++[x]) Y post c (by simp at hi⊢;omega) (by simp at hj⊢;omega)
    rw [hx,hlen,show wrap64 ((c:Int)+1)=((c+1:Nat):Int) from by rw [wrap_id (by omega) (by omega)];omega]
    exact Wp.itet (by omega) (Wp.itet (by omega) (Wp.itet (by omega) (Wp.itet (by omega) (Wp.itet (by omega) (S.test (qy _ hm) (qx x (by simp)) st sf)))))
   ·intro i hi hj ht hf
    refine Wp.step (fun k=>S.esy0 _ _ _ _ _) (Wp.itef (by omega) ?_)
    obtain ⟨Y1,Y2,rfl,hY1⟩:=splitAt_ Y (i - pre.length - 1) (by simp at hi hj;omega)
    have hi':i=pre.length+Y1.length+1:=by simp at hi;omega
    have:=S.sy1_wp x (Y2++post) (i:Int) Y1 pre (by omega) (by simp at hl⊢;omega)
    rw [show pre++x::Y1++(Y2++post)=pre++[x]++(Y1++Y2)++post from by simp] at this
    refine this.wp ⟨Y1++x::Y2,by simp,?_,?_⟩
    ·obtain ⟨o1,o2,o3⟩:=S.ord_app.1 oY
     have c1:∀u∈Y1,∀v∈[x],S.le u v:=by
      refine S.cut o1 (List.pairwise_singleton _ _) fun A' w y B' e1 e2=>?_
      obtain ⟨rfl,rfl⟩:=List.cons.inj e2
      subst e1
      have hA:(A'++[w]).length=A'.length+1:=by simp
      have:=ht (by simp at hi⊢;omega)
      rw [show pre++[x]++(A'++[w]++Y2)++post=(pre++x::A')++w::(Y2++post) from by simp,rd_mid _ _ _ _ _ (by simp;omega)] at this
      exact S.le_of_lt this
     have c2:∀u∈[x],∀v∈Y2,S.le u v:=by
      refine S.cut (List.pairwise_singleton _ _) o2 fun A' w y B' e1 e2=>?_
      have e3:A'=[]∧x=w:=by
       cases A' with
       | nil=>exact ⟨rfl,by simpa using e1⟩
       | cons a A'=>simp at e1
      obtain ⟨rfl,rfl⟩:=e3
      subst e2
      have:=hf (by simp;omega)
      rw [show pre++[x]++(Y1++y::B')++post=(pre++x::Y1)++y::(B'++post) from by simp,rd_mid _ _ _ _ _ (by simp;omega)] at this
      exact S.le_nlt this
     refine S.ord_app.2 ⟨o1,List.pairwise_cons.2 ⟨c2 x (by simp),o2⟩,fun u hu v hv=>?_⟩
     rcases List.mem_cons.1 hv with rfl | hv
     ·exact c1 u hu v (by simp)
     ·exact o3 u hu v hv
    ·simp
  ·obtain ⟨x,rfl⟩:∃x,Y=[x]:=by
    cases Y with
    | nil=>exact absurd rfl hY
    | cons x Y=>cases Y with
     | nil=>exact ⟨x,rfl⟩
     | cons y Y=>simp at h2;omega
   refine Wp.halves (fun k i j=>S.sy2 k (pre++X++[x]++post) ((pre.length+X.length:Nat):Int) i j) (fun c=>¬S.cmp x (rdOf S.z (pre++X++[x]++post) (c:Int))=.lt) pre.length (pre.length+X.length) (by omega) (by omega) ?_ ?_
   ·intro i j hi hij hj c hc hic hcj st sf
    refine Wp.step (fun k=>S.esy2 _ _ _ _ _) ?_
    rw [hf_nat (by omega),←hc]
    have hx:rdOf S.z (pre++X++[x]++post) ((pre.length+X.length:Nat):Int)=x:=by
     rw [show pre++X++[x]++post=(pre++X)++x::post from by simp];exact rd_mid _ _ _ _ _ (by simp)
    have hm:rdOf S.z (pre++X++[x]++post) (c:Int)∈X:=by
     rw [show pre++X++[x]++post=pre++X++([x]++post) from by simp]
     exact rd_in S.z pre X ([x]++post) c (by omega) (by omega)
    rw [hx,hlen,show wrap64 ((c:Int)+1)=((c+1:Nat):Int) from by rw [wrap_id (by omega) (by omega)];omega]
    exact Wp.itet (by omega) (Wp.itet (by omega) (Wp.itet (by omega) (Wp.itet (by omega) (Wp.itet (by omega) (S.test (qy x (by simp)) (qx _ hm) (fun e=>sf (fun h=>h e)) st)))))
   ·intro i hi hj ht hf
    refine Wp.step (fun k=>S.esy2 _ _ _ _ _) (Wp.itef (by omega) ?_)
    obtain ⟨X1,X2,rfl,hX1⟩:=splitAt_ X (i - pre.length) (by omega)
    have hi':i=pre.length+X1.length:=by omega
    have hx12:(X1++X2).length=X1.length+X2.length:=List.length_append
    have:=S.sy3_wp (pre++X1) x X2.length X2 post rfl (by simp;omega)
    rw [show pre++X1++X2++x::post=pre++(X1++X2)++[x]++post from by simp,show ((pre++X1).length:Int)=(i:Int) from by simp;omega,show (((pre++X1).length+X2.length:Nat):Int)=((pre.length+(X1++X2).length:Nat):Int) from by simp;omega] at this
    refine this.wp ⟨X1++x::X2,by simp,?_,?_⟩
    ·obtain ⟨o1,o2,o3⟩:=S.ord_app.1 oX
     have c1:∀u∈X1,∀v∈[x],S.le u v:=by
      refine S.cut o1 (List.pairwise_singleton _ _) fun A' w y B' e1 e2=>?_
      obtain ⟨rfl,rfl⟩:=List.cons.inj e2
      subst e1
      have hA:(A'++[w]).length=A'.length+1:=by simp
      have:=ht (by omega)
      rw [show pre++(A'++[w]++X2)++[x]++post=(pre++A')++w::(X2++[x]++post) from by simp,rd_mid _ _ _ _ _ (by simp;omega)] at this
      exact S.le_nlt this
     have c2:∀u∈[x],∀v∈X2,S.le u v:=by
      refine S.cut (List.pairwise_singleton _ _) o2 fun A' w y B' e1 e2=>?_
      have e3:A'=[]∧x=w:=by
       cases A' with
       | nil=>exact ⟨rfl,by simpa using e1⟩
       | cons a A'=>simp at e1
      obtain ⟨rfl,rfl⟩:=e3
      subst e2
      have:=hf (by simp at hx12⊢;omega)
      rw [show pre++(X1++y::B')++[x]++post=(pre++X1)++y::(B'++[x]++post) from by simp,rd_mid _ _ _ _ _ (by simp;omega)] at this
      exact S.le_of_lt (Classical.not_not.1 this)
     refine S.ord_app.2 ⟨o1,List.pairwise_cons.2 ⟨c2 x (by simp),o2⟩,fun u hu v hv=>?_⟩
     rcases List.mem_cons.1 hv with rfl | hv
     ·exact c1 u hu v (by simp)
     ·exact o3 u hu v hv
    ·have:(X1++(x::X2)).Perm (X1++(X2++[x])):=List.Perm.append_left _ (List.perm_append_comm (l₁:=[x]))
     simpa using this
  ·obtain ⟨M,hM,hM1⟩:∃M:Nat,hf (pre.length:Int) ((pre.length+X.length+Y.length:Nat):Int)=(M:Int)∧M=(pre.length+(pre.length+X.length+Y.length)) / 2:=⟨_,hf_nat (by omega),rfl⟩
   rw [hM]
   clear hM
   rw [show wrap64 ((M:Int)+((pre.length+X.length:Nat):Int))=((M+(pre.length+X.length):Nat):Int) from by rw [wrap_id (by omega) (by omega)];omega]
   rw [show wrap64 (((M+(pre.length+X.length):Nat):Int) - 1)=((M+(pre.length+X.length) - 1:Nat):Int) from by rw [wrap_id (by omega) (by omega)];omega]
   refine Wp.ite (fun h3=>?_) (fun h3=>?_)
   ·rw [show wrap64 (((M+(pre.length+X.length):Nat):Int) - ((pre.length+X.length+Y.length:Nat):Int))=((M+(pre.length+X.length) - (pre.length+X.length+Y.length):Nat):Int) from by rw [wrap_id (by omega) (by omega)];omega]
    exact S.sy4_wp n ih pre X Y post h x0 y0 hl qx qy oX oY pre.length (pre.length+X.length) (pre.length+X.length+Y.length) M (M+(pre.length+X.length) - (pre.length+X.length+Y.length)) M rfl rfl rfl hM1 (Or.inl ⟨rfl,rfl,by omega⟩)
   ·exact S.sy4_wp n ih pre X Y post h x0 y0 hl qx qy oX oY pre.length (pre.length+X.length) (pre.length+X.length+Y.length) M pre.length (pre.length+X.length) rfl rfl rfl hM1 (Or.inr ⟨rfl,rfl,by omega⟩)
inductive Srt.Chk {α:Type} (S:Srt α) (bs:Nat):List α→Prop
 | last (l:List α):l.length≤bs→S.ord l→Srt.Chk S bs l
 | cons (c l:List α):c.length=bs→S.ord c→Srt.Chk S bs l→Srt.Chk S bs (c++l)
theorem Srt.Chk.small {α:Type} {S:Srt α} {bs:Nat} {l:List α} (h:S.Chk bs l) (hl:l.length≤bs):S.ord l:=by
 cases h with
 | last _ _ o=>exact o
 | cons c l h1 o _=>
  have:l=[]:=by rw [List.length_append] at hl;exact List.length_eq_zero_iff.1 (by omega)
  subst this
  simpa using o
theorem Srt.Chk.one {α:Type} {S:Srt α} {bs:Nat} {l:List α} (h:S.Chk bs l) (hl:bs≤l.length):∃c r,l=c++r∧c.length=bs∧S.ord c∧S.Chk bs r:=by
 cases h with
 | last _ h1 o=>exact ⟨l,[],by simp,by omega,o,.last [] (Nat.zero_le _) List.Pairwise.nil⟩
 | cons c l h1 o k=>exact ⟨c,l,rfl,h1,o,k⟩
theorem Srt.st2_wp {α:Type} {R:List α→Prop} (S:Srt α) (bs nn:Nat) (hb:0<bs) (hbn:bs<nn) (hnn:nn≤1000000000):∀(n:Nat) (done rest:List α),rest.length≤n→(done++rest).length=nn→(∀y∈rest,S.Q y)→S.Chk bs rest→
  (∀rest',S.Chk (2*bs) rest'→rest'.Perm rest→Wp (fun k=>S.st1 k (done++rest') (nn:Int) ((2*bs:Nat):Int)) R)→
  Wp (fun k=>S.st2 k (done++rest) (nn:Int) (bs:Int) (done.length:Int) ((done.length+2*bs:Nat):Int)) R:=by
 intro n
 induction n with
 | zero=>
  intro done rest hr hl hQ hc k
  have:rest=[]:=List.length_eq_zero_iff.1 (by omega)
  subst this
  rw [List.length_append,List.length_nil] at hl
  refine Wp.step (fun k=>S.est2 _ _ _ _ _ _) (Wp.itef (by omega) ?_)
  rw [show wrap64 ((done.length:Int)+(bs:Int))=((done.length+bs:Nat):Int) from by rw [wrap_id (by omega) (by omega)];omega,show wrap64 ((bs:Int)*2)=((2*bs:Nat):Int) from by rw [wrap_id (by omega) (by omega)];omega]
  exact Wp.itef (by omega) (k [] (.last [] (Nat.zero_le _) List.Pairwise.nil) (List.Perm.refl _))
 | succ n ih=>
  intro done rest hr hl hQ hc k
  have hl':=hl
  rw [List.length_append] at hl'
  refine Wp.step (fun k=>S.est2 _ _ _ _ _ _) ?_
  rw [show wrap64 ((done.length:Int)+(bs:Int))=((done.length+bs:Nat):Int) from by rw [wrap_id (by omega) (by omega)];omega,show wrap64 ((bs:Int)*2)=((2*bs:Nat):Int) from by rw [wrap_id (by omega) (by omega)];omega,show wrap64 (2*(bs:Int))=((2*bs:Nat):Int) from by rw [wrap_id (by omega) (by omega)];omega,
   show wrap64 (((done.length+2*bs:Nat):Int)+((2*bs:Nat):Int))=((done.length+2*bs+2*bs:Nat):Int) from by rw [wrap_id (by omega) (by omega)];omega]
  refine Wp.ite (fun h1=>?_) (fun h1=>Wp.ite (fun h2=>?_) (fun h2=>?_))
  ·obtain ⟨c1,r1,rfl,l1,o1,k1⟩:=hc.one (by omega)
   rw [List.length_append] at hl' hr
   obtain ⟨c2,r2,rfl,l2,o2,k2⟩:=k1.one (by omega)
   rw [List.length_append] at hl' hr
   have m:=S.sy_wp (c1.length+c2.length) done c1 c2 r2 (Nat.le_refl _) (by intro e;rw [e,List.length_nil] at l1;omega) (by intro e;rw [e,List.length_nil] at l2;omega) (by simp;omega) (fun y hy=>hQ y (by simp at hy⊢;rcases hy with h | h <;> simp [h])) o1 o2
   rw [l1,l2,show done++c1++c2++r2=done++(c1++(c2++r2)) from by simp,show done.length+bs+bs=done.length+2*bs from by omega] at m
   refine Wp.bind m fun v ⟨Z,e,o,p⟩=>?_
   have lz:Z.length=2*bs:=by rw [p.length_eq,List.length_append];omega
   rw [e]
   have:=ih (done++Z) r2 (by omega) (by simp;omega) (fun y hy=>hQ y (by simp [hy])) k2 (fun rest' hc' hp=>by
    have:=k (Z++rest') (.cons Z rest' lz o hc') (by
     have:=List.Perm.append p hp
     simpa using this)
    rw [List.append_assoc]
    exact this)
   rw [show (done++Z).length=done.length+2*bs from by rw [List.length_append,lz]] at this
   exact this
  ·obtain ⟨c1,r1,rfl,l1,o1,k1⟩:=hc.one (by omega)
   rw [List.length_append] at hl' hr
   have m:=S.sy_wp (c1.length+r1.length) done c1 r1 [] (Nat.le_refl _) (by intro e;rw [e,List.length_nil] at l1;omega) (by intro e;rw [e,List.length_nil] at hl';omega) (by simp;omega) hQ o1 (k1.small (by omega))
   rw [l1,show done++c1++r1++[]=done++(c1++r1) from by simp,show done.length+bs+r1.length=nn from by omega] at m
   refine Wp.bind m fun v ⟨Z,e,o,p⟩=>?_
   rw [e,List.append_nil]
   exact k Z (.last Z (by rw [p.length_eq,List.length_append];omega) o) p
  ·exact k rest (.last rest (by omega) (hc.small (by omega))) (List.Perm.refl _)
theorem Srt.st1_wp {α:Type} (S:Srt α) (nn:Nat) (hnn:nn≤1000000000):∀(n bs:Nat) (l:List α),nn - bs≤n→0<bs→l.length=nn→(∀y∈l,S.Q y)→S.Chk bs l→Wp (fun k=>S.st1 k l (nn:Int) (bs:Int)) (fun r=>S.ord r∧r.Perm l):=by
 intro n
 induction n with
 | zero=>
  intro bs l h hb hl hQ hc
  exact Wp.step (fun k=>S.est1 _ _ _ _) (Wp.itef (by omega) (Wp.ret ⟨hc.small (by omega),List.Perm.refl _⟩))
 | succ n ih=>
  intro bs l h hb hl hQ hc
  refine Wp.step (fun k=>S.est1 _ _ _ _) (Wp.ite (fun h1=>?_) (fun h1=>Wp.ret ⟨hc.small (by omega),List.Perm.refl _⟩))
  rw [show wrap64 (2*(bs:Int))=((2*bs:Nat):Int) from by rw [wrap_id (by omega) (by omega)];omega]
  have:=S.st2_wp (R:=fun r=>S.ord r∧r.Perm l) bs nn hb (by omega) hnn l.length [] l (Nat.le_refl _) (by simpa using hl) hQ hc (fun rest' hc' hp=>by
   have:=ih (2*bs) rest' (by omega) (by omega) (by rw [hp.length_eq,hl]) (fun y hy=>hQ y (hp.mem_iff.1 hy)) hc'
   exact this.mono fun r ⟨o,p⟩=>⟨o,p.trans hp⟩)
  simpa using this
theorem Srt.st0_wp {α:Type} {R:List α→Prop} (S:Srt α) (nn:Nat) (hnn:nn≤1000000000):∀(n:Nat) (done rest:List α),rest.length≤n→(done++rest).length=nn→(∀y∈rest,S.Q y)→
  (∀rest',S.Chk 20 rest'→rest'.Perm rest→Wp (fun k=>S.st1 k (done++rest') (nn:Int) 20) R)→Wp (fun k=>S.st0 k (done++rest) (nn:Int) 20 (done.length:Int) ((done.length+20:Nat):Int)) R:=by
 intro n
 induction n with
 | zero=>
  intro done rest hr hl hQ k
  have:rest=[]:=List.length_eq_zero_iff.1 (by omega)
  subst this
  rw [List.length_append,List.length_nil] at hl
  refine Wp.step (fun k=>S.est0 _ _ _ _ _ _) (Wp.itef (by omega) ?_)
  have m:=S.ins_wp done [] [] (by simp;omega) (by simp)
  rw [show ((done.length+([]:List α).length:Nat):Int)=(nn:Int) from by rw [List.length_nil];omega,show done++[]++[]=done++([]:List α) from by simp] at m
  refine Wp.bind m fun v ⟨Z,e,o,p⟩=>?_
  rw [e,List.append_nil]
  exact k Z (.last Z (by rw [p.length_eq];simp) o) p
 | succ n ih=>
  intro done rest hr hl hQ k
  have hl':=hl
  rw [List.length_append] at hl'
  refine Wp.step (fun k=>S.est0 _ _ _ _ _ _) (Wp.ite (fun h1=>?_) (fun h1=>?_))
  ·obtain ⟨c,r,rfl,lc⟩:=splitAt_ rest 20 (by omega)
   rw [List.length_append] at hl' hr
   have m:=S.ins_wp done c r (by simp;omega) (fun y hy=>hQ y (by simp [hy]))
   rw [lc,show done++c++r=done++(c++r) from by simp] at m
   refine Wp.bind m fun v ⟨Z,e,o,p⟩=>?_
   have lz:Z.length=20:=by rw [p.length_eq,lc]
   rw [e,show wrap64 (((done.length+20:Nat):Int)+20)=((done.length+20+20:Nat):Int) from by rw [wrap_id (by omega) (by omega)];omega]
   have:=ih (done++Z) r (by omega) (by simp;omega) (fun y hy=>hQ y (by simp [hy])) (fun rest' hc' hp=>by
    have:=k (Z++rest') (.cons Z rest' lz o hc') (List.Perm.append p hp)
    rw [List.append_assoc]
    exact this)
   rw [show (done++Z).length=done.length+20 from by rw [List.length_append,lz]] at this
   exact this
  ·have m:=S.ins_wp done rest [] (by simp;omega) hQ
   rw [show ((done.length+rest.length:Nat):Int)=(nn:Int) from by omega,show done++rest++[]=done++rest from by simp] at m
   refine Wp.bind m fun v ⟨Z,e,o,p⟩=>?_
   rw [e,List.append_nil]
   exact k Z (.last Z (by rw [p.length_eq];omega) o) p
theorem Srt.sort_wp {α:Type} (S:Srt α) (l:List α) (hl:l.length≤1000000000) (hQ:∀y∈l,S.Q y):Wp (fun k=>S.st0 k l (l.length:Int) 20 0 20) (fun r=>S.ord r∧r.Perm l):=by
 have:=S.st0_wp (R:=fun r=>S.ord r∧r.Perm l) l.length hl l.length [] l (Nat.le_refl _) (by simp) hQ (fun rest' hc hp=>by
  have:=S.st1_wp l.length hl l.length 20 rest' (by omega) (by decide) hp.length_eq (fun y hy=>hQ y (hp.mem_iff.1 hy)) hc
  exact this.mono fun r ⟨o,p⟩=>⟨o,p.trans hp⟩)
 simpa using this
theorem cI_swap (a b:Int):compare b a=(compare a b).swap:=by
 rw [ord_int,ord_int]
 rcases Int.lt_trichotomy a b with h | h | h
 ·rw [if_neg (by omega),if_neg (by omega),if_pos h];rfl
 ·rw [if_neg (by omega),if_pos (by omega),if_neg (by omega),if_pos h];rfl
 ·rw [if_pos h,if_neg (by omega),if_neg (by omega)];rfl
theorem then_swap (x y:Ordering):(x.then y).swap=x.swap.then y.swap:=by cases x <;> rfl
theorem then_lt (x y:Ordering):x.then y=.lt↔x=.lt∨(x=.eq∧y=.lt):=by cases x <;> simp [Ordering.then]
theorem cmpT_swap (a:I_Term):∀b,cmpT b a=(cmpT a b).swap:=by
 induction a using tInd with
 | h a ih=>
  intro b
  have:∀l l':List I_Term,(∀x∈l,∀b,cmpT b x=(cmpT x b).swap)→cmpTs l' l=(cmpTs l l').swap:=by
   intro l
   induction l with
   | nil=>intro l' _;cases l' <;> simp [cmpTs]
   | cons x l ihl=>
    intro l' h
    cases l' with
    | nil=>rw [cmpTs,cmpTs];rfl
    | cons y l'=>rw [cmpTs,cmpTs,then_swap,h x (by simp) y,ihl l' (fun w hw=>h w (by simp [hw]))]
  rw [cmpT_eq,cmpT_eq a b,then_swap,then_swap,then_swap,cI_swap a.f0 b.f0,cI_swap a.f1 b.f1,ord_nat,ord_nat a.f2.length,cI_swap (a.f2.length:Int),this a.f2 b.f2 ih]
theorem cmpT_tr (a:I_Term):∀b c,cmpT a b=.lt→cmpT b c=.lt→cmpT a c=.lt:=by
 induction a using tInd with
 | h a ih=>
  intro b c h1 h2
  have key:∀l l' l'':List I_Term,(∀x∈l,∀b c,cmpT x b=.lt→cmpT b c=.lt→cmpT x c=.lt)→l.length=l'.length→l'.length=l''.length→cmpTs l l'=.lt→cmpTs l' l''=.lt→cmpTs l l''=.lt:=by
   intro l
   induction l with
   | nil=>intro l' l'' _ _ _ h;rw [cmpTs] at h;exact absurd h (by decide)
   | cons x l ihl=>
    intro l' l'' h e1 e2 k1 k2
    cases l' with
    | nil=>simp at e1
    | cons y l'=>
     cases l'' with
     | nil=>simp at e2
     | cons w l''=>
      rw [cmpTs,then_lt] at k1 k2⊢
      simp only [List.length_cons,Nat.add_right_cancel_iff] at e1 e2
      rcases k1 with k1 | ⟨k1,k1'⟩ <;> rcases k2 with k2 | ⟨k2,k2'⟩
      ·exact Or.inl (h x (by simp) y w k1 k2)
      ·rw [cmpT_same.1 k2] at k1;exact Or.inl k1
      ·rw [←cmpT_same.1 k1] at k2;exact Or.inl k2
      ·rw [←cmpT_same.1 k1] at k2;exact Or.inr ⟨k2,ihl l' l'' (fun v hv=>h v (by simp [hv])) e1 e2 k1' k2'⟩
  rw [cmpT_eq,then_lt,then_lt,then_lt,Int.compare_eq_lt,Int.compare_eq_eq,Int.compare_eq_lt,Int.compare_eq_eq,Nat.compare_eq_lt,Nat.compare_eq_eq] at h1 h2⊢
  rcases h1 with h1 | ⟨h1, h1' | ⟨h1', h1'' | ⟨h1'', h1'''⟩⟩⟩ <;> rcases h2 with h2 | ⟨h2, h2' | ⟨h2', h2'' | ⟨h2'', h2'''⟩⟩⟩
  all_goals first
   | exact Or.inl (by omega)
   | exact Or.inr ⟨by omega,Or.inl (by omega)⟩
   | exact Or.inr ⟨by omega,Or.inr ⟨by omega,Or.inl (by omega)⟩⟩
   | exact Or.inr ⟨by omega, Or.inr ⟨by omega, Or.inr ⟨by omega, key _ _ _ ih h1'' h2'' h1''' h2'''⟩⟩⟩
noncomputable def srtT:Srt I_Term where
 z:=zI_Term
 cmpE:=fun k a b=>fQ19.f k a.f0 a.f1 a.f2 b.f0 b.f1 b.f2
 cmp:=cmpT
 Q:=fun t=>sz t≤1000000000
 hcmp:=fun a b ha _=>impl_compare_ev a ha b
 same:=cmpT_same
 swp:=fun a b=>cmpT_swap a b
 tr:=fun h k=>cmpT_tr _ _ _ h k
 ins0:=fQ2.l0
 ins1:=fQ2.l1
 swp0:=fQ5.l0
 rot0:=fQ3.l0
 sy0:=fQ0.l0
 sy1:=fQ0.l1
 sy2:=fQ0.l2
 sy3:=fQ0.l3
 sy4:=fQ0.l4
 j0:=fQ0.j0
 j1:=fQ0.j1
 sy:=fQ0.f
 st0:=fQ1.l0
 st1:=fQ1.l1
 st2:=fQ1.l2
 eins0:=by intros;rfl
 eins1:=by intros;rw [fQ2.l1];simp only [tEta];rfl
 eswp:=by intros;rw [fQ5.l0];simp only [tEta];rfl
 erot:=by intros;rfl
 esy0:=by intros;rfl
 esy1:=by intros;rw [fQ0.l1];simp only [tEta];rfl
 esy2:=by intros;rfl
 esy3:=by intros;rw [fQ0.l3];simp only [tEta];rfl
 esy4:=by intros;rfl
 ej0:=by intros;rfl
 ej1:=by intros;rfl
 esy:=by intros;rfl
 est0:=by intros;rfl
 est1:=by intros;rfl
 est2:=by intros;rfl
theorem impl_sortT_wp (l:List I_Term) (hl:szs l≤1000000000):Wp (fun k=>fQ9.f k l) (fun r=>srtT.ord r∧r.Perm l):=by
 have:=szs_len l
 refine Wp.bind (srtT.sort_wp l (by omega) (fun y hy=>by have:=szs_mem hy;show sz y≤_;omega)) fun v h=>Wp.ret h
theorem putT_perm (t:I_Term) (l:List I_Term):(putT t l).Perm (t::l):=by
 induction l with
 | nil=>exact List.Perm.refl _
 | cons a l ih=>
  rw [putT]
  split
  ·exact List.Perm.refl _
  ·exact (List.Perm.cons a ih).trans (List.Perm.swap _ _ _)
theorem bef_lt {a b:I_Term}:bef a b=true↔cmpT a b=.lt:=by unfold bef;cases cmpT a b <;> decide
theorem putT_ord (t:I_Term) (l:List I_Term) (h:srtT.ord l):srtT.ord (putT t l):=by
 induction l with
 | nil=>exact List.pairwise_singleton _ _
 | cons a l ih=>
  obtain ⟨h1,h2⟩:=List.pairwise_cons.1 h
  rw [putT]
  split
  ·have ta:srtT.le t a:=srtT.le_of_lt (bef_lt.1 (by assumption))
   refine List.pairwise_cons.2 ⟨fun x hx=>?_,h⟩
   rcases List.mem_cons.1 hx with rfl | hx
   ·exact ta
   ·exact srtT.le_tr ta (h1 x hx)
  ·have at':srtT.le a t:=srtT.le_nlt (fun e=>by rename_i hn;exact hn (bef_lt.2 e))
   refine List.pairwise_cons.2 ⟨fun x hx=>?_,ih h2⟩
   rcases List.mem_cons.1 ((putT_perm t l).mem_iff.1 hx) with rfl | hx
   ·exact at'
   ·exact h1 x hx
theorem ord_uniq:∀(l k:List I_Term),srtT.ord l→srtT.ord k→l.Perm k→l=k:=by
 intro l
 induction l with
 | nil=>intro k _ _ h;exact (List.nil_perm.1 h).symm
 | cons a l ih=>
  intro k ol ok h
  cases k with
  | nil=>exact absurd h.length_eq (by simp)
  | cons b k=>
   obtain ⟨l1,l2⟩:=List.pairwise_cons.1 ol
   obtain ⟨k1,k2⟩:=List.pairwise_cons.1 ok
   have e:a=b:=by
    rcases List.mem_cons.1 (h.mem_iff.1 (List.mem_cons_self)) with e | ha
    ·exact e
    ·rcases List.mem_cons.1 (h.mem_iff.2 (List.mem_cons_self)) with e | hb
     ·exact e.symm
     ·have u:cmpT a b≠.gt:=l1 b hb
      have v:cmpT b a≠.gt:=k1 a ha
      rw [cmpT_swap] at v
      cases hab:cmpT a b with
      | eq=>exact cmpT_same.1 hab
      | lt=>rw [hab] at v;exact absurd rfl v
      | gt=>exact absurd hab u
   subst e
   rw [ih k l2 k2 h.cons_inv]
noncomputable def addG (s:List I_Sym) (f:Int) (acc:List I_Term) (k:I_Term):List I_Term:=
 if B (Blind s f)=true then (if k.f0=f then acc++k.f2 else acc++[k]) else acc++[k]
noncomputable def gat (s:List I_Sym) (f:Int):List I_Term→List I_Term→List I_Term
 | [],acc=>acc
 | t::l,acc=>gat s f l (addG s f acc (norm s t))
theorem gat_app (s:List I_Sym) (f:Int) (p:List I_Term):∀(q acc:List I_Term),gat s f (p++q) acc=gat s f q (gat s f p acc):=by
 induction p with
 | nil=>intro q acc;rw [List.nil_append,gat]
 | cons a p ih=>intro q acc;rw [List.cons_append,gat,gat,ih]
theorem foldput_ord (k:List I_Term):∀acc,srtT.ord acc→srtT.ord (k.foldl (fun a x=>putT x a) acc):=by
 induction k with
 | nil=>intro acc h;exact h
 | cons a k ih=>intro acc h;exact ih _ (putT_ord a acc h)
theorem foldput_perm (k:List I_Term):∀acc,(k.foldl (fun a x=>putT x a) acc).Perm (acc++k):=by
 induction k with
 | nil=>intro acc;simp
 | cons a k ih=>
  intro acc
  refine (ih (putT a acc)).trans ?_
  refine (List.Perm.append_right k (putT_perm a acc)).trans ?_
  exact List.perm_middle.symm
theorem normL_gat {s:List I_Sym} {f:Int} (hB:B (Blind s f)=true):∀(l a b:List I_Term),srtT.ord a→a.Perm b→srtT.ord (normL s f l a)∧(normL s f l a).Perm (gat s f l b):=by
 intro l
 induction l with
 | nil=>intro a b o p;rw [normL,gat];exact ⟨o,p⟩
 | cons t l ih=>
  intro a b o p
  rw [normL,gat]
  refine ih _ _ ?_ ?_
  ·unfold addK
   rw [if_pos hB]
   split
   ·exact foldput_ord _ _ o
   ·exact putT_ord _ _ o
  ·unfold addK addG
   rw [if_pos hB,if_pos hB]
   split
   ·exact (foldput_perm _ _).trans (List.Perm.append_right _ p)
   ·exact ((putT_perm _ _).trans (List.Perm.cons _ p)).trans (List.perm_append_comm (l₁:=[norm s t]))
theorem normL_gat' {s:List I_Sym} {f:Int} (hB:¬B (Blind s f)=true):∀(l a:List I_Term),normL s f l a=gat s f l a:=by
 intro l
 induction l with
 | nil=>intro a;rw [normL,gat]
 | cons t l ih=>
  intro a
  rw [normL,gat,ih]
  unfold addK addG
  rw [if_neg hB,if_neg hB]
theorem szs_addG (s:List I_Sym) (f:Int) (acc:List I_Term) (k:I_Term):szs (addG s f acc k)≤szs acc+sz k:=by
 unfold addG
 have:=sz_eq k
 split
 ·split
  ·rw [szs_append];omega
  ·rw [szs_append,szs,szs];omega
 ·rw [szs_append,szs,szs];omega
theorem impl_Norm_ev (s:List I_Sym) (hs:Names s) (t:I_Term):sz t≤1000000000→Ev (fun k=>impl_Norm.f k s t.f0 t.f1 t.f2) ((norm s t).f0,(norm s t).f1,(norm s t).f2):=by
 induction t using tInd with
 | h t ih=>
 intro ht
 have hlen:=sz_kids t
 refine Wp.ev ?_
 refine Wp.step (fun k=>by rw [impl_Norm.f]) ?_
 have hst:=sz_eq t
 refine Wp.each1 t.f2 zI_Term (by omega) (fun k i b=>impl_Norm.l0 k s b t.f2 t.f2.length i t.f0 t.f1 t.f2 0 0) (fun p b=>b=gat s t.f0 p []∧szs b≤szs p) ?_ ?_ [] ⟨by rw [gat],Nat.le_refl _⟩
 ·intro p x q b e m hn hr hw hI jh
  obtain ⟨hI1,hI2⟩:=hI
  refine Wp.step (fun k=>by rw [impl_Norm.l0]) ?_
  have r1:rd_I_Term t.f2 (p.length:Int)=x:=hr
  have hx:=sz_kid m
  have ihx:=ih x m (by omega)
  have hnx:=sz_norm s x
  have hsp:szs p+sz x+szs q=szs t.f2:=by rw [e,szs_append,szs];omega
  have hg:=szs_addG s t.f0 b (norm s x)
  have hbl:=szs_len b
  have hkl:=szs_len (norm s x).f2
  have hks:=sz_eq (norm s x)
  have nxt:Wp (fun k=>impl_Norm.l0 k s (addG s t.f0 b (norm s x)) t.f2 t.f2.length ((p.length:Int)+1) t.f0 t.f1 t.f2 0 0) (fun r=>r=((norm s t).f0,(norm s t).f1,(norm s t).f2)):=by
   refine jh _ ⟨?_,?_⟩
   ·rw [gat_app,gat,gat,←hI1]
   ·rw [szs_append,szs,szs];omega
  unfold addG at nxt
  rw [r1,hw.e]
  refine Wp.itet (by omega) (Wp.itet (Int.natCast_nonneg _) (Wp.itet (by omega) (Wp.bindE ihx (Wp.bindE (impl_Blind_ev s hs t.f0) ?_))))
  refine Wp.ite (fun hB=>?_) (fun hB=>?_)
  ·rw [if_pos hB] at nxt
   refine Wp.ite (fun h0=>?_) (fun h0=>?_)
   ·rw [if_pos h0] at nxt
    have e3:((norm s x).f0,(norm s x).f1,(norm s x).f2).2.2.length=(norm s x).f2.length:=rfl
    exact Wp.itet (by omega) nxt
   ·rw [if_neg h0] at nxt
    refine Wp.itet (by simp only [List.length_cons,List.length_nil];omega) ?_
    rw [tEta]
    exact nxt
  ·rw [if_neg hB] at nxt
   refine Wp.itet (by simp only [List.length_cons,List.length_nil];omega) ?_
   rw [tEta]
   exact nxt
 ·intro b hI
  obtain ⟨hI1,hI2⟩:=hI
  refine Wp.step (fun k=>by rw [impl_Norm.l0]) ?_
  refine Wp.itef (by omega) (Wp.bindE (impl_Blind_ev s hs t.f0) (Wp.ite (fun hB=>?_) (fun hB=>?_)))
  ·refine Wp.bind (impl_sortT_wp b (by omega)) fun r hr=>Wp.ret ?_
   have h2:=normL_gat hB t.f2 [] [] List.Pairwise.nil (List.Perm.refl _)
   have:r=normL s t.f0 t.f2 []:=ord_uniq _ _ hr.1 h2.1 (hr.2.trans (by rw [hI1];exact h2.2.symm))
   rw [norm_f0,norm_f1,norm_f2,this]
  ·refine Wp.ret ?_
   rw [norm_f0,norm_f1,norm_f2,normL_gat' hB,hI1]
theorem rdT_get {l:List I_Term} {i:Nat} (h:i<l.length):rd_I_Term l i=l[i]:=by
 show l.getD i zI_Term=_
 rw [List.getD_eq_getElem?_getD,List.getElem?_eq_getElem h];rfl
theorem ord_kid {l:List I_Term} (h:srtT.ord l) {i:Nat} (h0:0<i) (h1:i<l.length):bef (rd_I_Term l i) (rd_I_Term l ((i:Int) - 1))=false:=by
 rw [show ((i:Int) - 1)=((i - 1:Nat):Int) from by omega,rdT_get h1,rdT_get (show i - 1<l.length by omega)]
 have:srtT.le (l[i - 1]'(by omega)) l[i]:=List.pairwise_iff_getElem.1 h (i - 1) i (by omega) h1 (by omega)
 have h2:cmpT (l[i - 1]'(by omega)) l[i]≠.gt:=this
 unfold bef
 rw [cmpT_swap]
 cases hc:cmpT (l[i - 1]'(by omega)) l[i]
 ·rfl
 ·rfl
 ·exact absurd hc h2
noncomputable def grp (f:Int) (k:I_Term):List I_Term:=if k.f0=f then k.f2 else [k]
theorem gat_acc {s:List I_Sym} {f:Int} (hb:Blind s f):∀(l acc:List I_Term),gat s f l acc=acc++gat s f l []:=by
 intro l
 induction l with
 | nil=>intro acc;rw [gat,gat,List.append_nil]
 | cons x l ih=>
  intro acc
  have e:∀acc,addG s f acc (norm s x)=acc++grp f (norm s x):=by
   intro acc;unfold addG grp;rw [if_pos (B_iff.2 hb)];split <;> rfl
  rw [gat,gat,ih,e,ih (addG s f [] (norm s x)),e,List.nil_append,List.append_assoc]
theorem gat_cons {s:List I_Sym} {f:Int} (hb:Blind s f) (x:I_Term) (l:List I_Term):gat s f (x::l) []=grp f (norm s x)++gat s f l []:=by
 rw [gat,gat_acc hb]
 unfold addG grp
 rw [if_pos (B_iff.2 hb)]
 split <;> rfl
theorem grp_form {s:List I_Sym} {f:Int} (hb:Blind s f) {k:I_Term} (h:FormOk s k):(∀y∈grp f k,FormOk s y∧y.f0≠f)∧grp f k≠[]:=by
 unfold grp
 split
 ·rename_i hf
  rcases h.row with r | r
  ·have:=hb.1;omega
  ·obtain ⟨_,_,_,_,h4,h5⟩:=r
   have h2:(rd_I_Sym s k.f0).f2=true:=by rw [hf];exact hb.2.2
   refine ⟨rdTerm_all fun i hi=>⟨h.kid _ (rdTerm_mem (by omega) (by omega)),?_⟩,?_⟩
   ·have:=(h5 i hi h2).1
    rwa [hf] at this
   ·intro e;have:=h4 h2;rw [e] at this;simp at this
 ·rename_i hf
  exact ⟨fun y hy=>by rw [List.mem_singleton.1 hy];exact ⟨h,hf⟩,by simp⟩
theorem gat_form {s:List I_Sym} {f:Int} (hb:Blind s f):∀(l:List I_Term),(∀x∈l,FormOk s (norm s x))→(∀y∈gat s f l [],FormOk s y∧y.f0≠f)∧l.length≤(gat s f l []).length:=by
 intro l
 induction l with
 | nil=>intro _;rw [gat];simp
 | cons x l ih=>
  intro h
  obtain ⟨h1,h2⟩:=grp_form hb (h x (by simp))
  obtain ⟨h3,h4⟩:=ih (fun y hy=>h y (by simp [hy]))
  rw [gat_cons hb]
  refine ⟨fun y hy=>(List.mem_append.1 hy).elim (h1 y) (h3 y),?_⟩
  have:=List.length_pos_iff.2 h2
  rw [List.length_append,List.length_cons];omega
theorem form_blind {s:List I_Sym} {f:Int} (hb:Blind s f) (l:List I_Term) (h2:2≤l.length) (h:∀x∈l,FormOk s (norm s x)):FormOk s (norm s ⟨f,0,l⟩):=by
 obtain ⟨o,p⟩:=normL_gat (B_iff.2 hb) l [] [] List.Pairwise.nil (List.Perm.refl _)
 obtain ⟨h3,h4⟩:=gat_form hb l h
 have e:norm s ⟨f,0,l⟩=⟨f,0,normL s f l []⟩:=by rw [norm]
 rw [e]
 refine .mk _ (.inr ⟨?_,⟨hb.1,hb.2.1⟩,rfl,fun hf=>?_,fun _=>?_,fun i hi _=>⟨?_,fun h0=>ord_kid o h0 hi⟩⟩) fun x hx=>(h3 x (p.mem_iff.1 hx)).1
 ·have:=hb.1;show f≠-1;omega
 ·rw [show (rd_I_Sym s f).f2=true from hb.2.2] at hf;exact absurd hf (by decide)
 ·show 2≤(normL s f l []).length
  rw [p.length_eq];omega
 ·exact (h3 _ (p.mem_iff.1 (rdTerm_mem (by omega) (by show (i:Int)<((normL s f l []).length:Int);exact Int.ofNat_lt.2 hi)))).2
theorem normL_no {s:List I_Sym} {f:Int} (hb:¬Blind s f):∀(l acc:List I_Term),normL s f l acc=acc++l.map (norm s):=by
 intro l
 induction l with
 | nil=>intro acc;rw [normL];simp
 | cons x l ih=>
  intro acc
  rw [normL,ih]
  unfold addK
  rw [if_neg (fun h=>hb (B_iff.1 h))]
  simp
theorem form_sym {s:List I_Sym} {f:Int} (h0:0≤f∧f<(s.length:Int)) (hb:(rd_I_Sym s f).f2=false) (l:List I_Term) (hl:(l.length:Int)=(rd_I_Sym s f).f1) (h:∀x∈l,FormOk s (norm s x)):FormOk s (norm s ⟨f,0,l⟩):=by
 have nb:¬Blind s f:=fun h=>by rw [h.2.2] at hb;exact absurd hb (by decide)
 have e:norm s ⟨f,0,l⟩=⟨f,0,l.map (norm s)⟩:=by rw [norm,normL_no nb];rfl
 rw [e]
 refine .mk _ (.inr ⟨?_,h0,rfl,fun _=>?_,fun hf=>?_,fun i hi hf=>?_⟩) fun x hx=>?_
 ·show f≠-1;omega
 ·show ((l.map (norm s)).length:Int)=_
  rw [List.length_map];exact hl
 ·exact absurd (hb.symm.trans hf) (by decide)
 ·exact absurd (hb.symm.trans hf) (by decide)
 ·obtain ⟨y,hy,rfl⟩:=List.mem_map.1 hx
  exact h y hy
theorem form_var (s:List I_Sym) (v:Int) (h:0≤v∧v≤99):FormOk s (norm s ⟨-1,v,[]⟩):=by
 have e:norm s ⟨-1,v,[]⟩=⟨-1,v,[]⟩:=by rw [norm,normL]
 rw [e]
 exact .mk _ (.inl ⟨rfl,h,rfl⟩) (fun x hx=>by cases hx)
theorem opc {z:Nat} {t:List Int} (hi:Indiff z t) {a b:Int} (ha:0≤a∧a<z) (hb:0≤b∧b<z):opw z t a b=opw z t b a:=by
 have:=(hi a.toNat (by omega) b.toNat (by omega) b.toNat (by omega)).1
 rwa [show ((a.toNat:Nat):Int)=a from by omega,show ((b.toNat:Nat):Int)=b from by omega] at this
theorem opa {z:Nat} {t:List Int} (hi:Indiff z t) {a b c:Int} (ha:0≤a∧a<z) (hb:0≤b∧b<z) (hc:0≤c∧c<z):opw z t (opw z t a b) c=opw z t a (opw z t b c):=by
 have:=(hi a.toNat (by omega) b.toNat (by omega) c.toNat (by omega)).2
 rwa [show ((a.toNat:Nat):Int)=a from by omega,show ((b.toNat:Nat):Int)=b from by omega,show ((c.toNat:Nat):Int)=c from by omega] at this
theorem foldl_op {z:Nat} {t:List Int} (h:Sq z t) (hi:Indiff z t):∀(r:List Int) (a b:Int),(0≤a∧a<z)→(0≤b∧b<z)→InR z r→r.foldl (fun x y=>opw z t x y) (opw z t a b)=opw z t a (r.foldl (fun x y=>opw z t x y) b):=by
 intro r
 induction r with
 | nil=>intro a b _ _ _;rfl
 | cons c r ih=>
  intro a b ha hb hr
  have hc:=hr c (by simp)
  rw [List.foldl_cons,List.foldl_cons,opa hi ha hb hc]
  exact ih a _ ha (opw_rng h hb hc) (fun x hx=>hr x (by simp [hx]))
theorem foldV_cons {z:Nat} {t:List Int} (h:Sq z t) (hi:Indiff z t) (a:Int) (l:List Int) (ha:0≤a∧a<z) (hl:InR z l) (hn:l≠[]):foldV z t (a::l)=opw z t a (foldV z t l):=by
 cases l with
 | nil=>exact absurd rfl hn
 | cons b r=>
  show (b::r).foldl (fun x y=>opw z t x y) a=opw z t a (r.foldl (fun x y=>opw z t x y) b)
  rw [List.foldl_cons]
  exact foldl_op h hi r a b ha (hl b (by simp)) (fun x hx=>hl x (by simp [hx]))
theorem foldV_app {z:Nat} {t:List Int} (h:Sq z t) (hi:Indiff z t):∀(l k:List Int),InR z l→InR z k→l≠[]→k≠[]→foldV z t (l++k)=opw z t (foldV z t l) (foldV z t k):=by
 intro l
 induction l with
 | nil=>intro k _ _ h;exact absurd rfl h
 | cons a l ih=>
  intro k hl hk _ kn
  have ha:=hl a (by simp)
  have hl':InR z l:=fun x hx=>hl x (by simp [hx])
  have hlk:InR z (l++k):=fun x hx=>(List.mem_append.1 hx).elim (hl' x) (hk x)
  rw [List.cons_append,foldV_cons h hi a (l++k) ha hlk (by simp [kn])]
  cases l with
  | nil=>rfl
  | cons b r=>rw [ih k hl' hk (by simp) kn,foldV_cons h hi a (b::r) ha hl' (by simp),opa hi ha (foldV_rng h hl') (foldV_rng h hk)]
theorem foldV_perm {z:Nat} {t:List Int} (h:Sq z t) (hi:Indiff z t) {l k:List Int} (p:l.Perm k):InR z l→foldV z t l=foldV z t k:=by
 induction p with
 | nil=>intro _;rfl
 | @cons a l k p ih=>
  intro hl
  have hl':InR z l:=fun x hx=>hl x (by simp [hx])
  have hk':InR z k:=fun x hx=>hl' x (p.mem_iff.2 hx)
  cases l with
  | nil=>rw [List.nil_perm.1 p]
  | cons b r=>rw [foldV_cons h hi a (b::r) (hl a (by simp)) hl' (by simp),ih hl',←foldV_cons h hi a k (hl a (by simp)) hk' (by intro e;rw [e] at p;exact absurd p.length_eq (by simp))]
 | @swap a b l=>
  intro hl
  show l.foldl (fun x y=>opw z t x y) (opw z t b a)=l.foldl (fun x y=>opw z t x y) (opw z t a b)
  rw [opc hi (hl b (by simp)) (hl a (by simp))]
 | @trans a b c p q ih1 ih2=>intro hl;rw [ih1 hl,ih2 (fun x hx=>hl x (p.mem_iff.2 hx))]
theorem row_indiff {s:List I_Sym} {z:Nat} {T:List (List Int)} (hw:WorldOk s z T) {f:Int} (h:Blind s f):Indiff z (rd_Ls_i64 T f):=by
 obtain ⟨h0,h1,h2⟩:=h
 obtain ⟨n,rfl⟩:∃n:Nat,f=n:=⟨f.toNat,by omega⟩
 exact (hw.2.2.2 n (by omega)).2.2 h2
theorem inR_means {s:List I_Sym} {z:Nat} {T:List (List Int)} (hw:WorldOk s z T) (env:List Int) {l:List I_Term} (h:∀x∈l,FormOk s x):InR z (l.map (mean s z T env)):=by
 intro x hx
 obtain ⟨y,hy,rfl⟩:=List.mem_map.1 hx
 exact mean_rng hw env y (h y hy)
theorem mean_blind {s:List I_Sym} {z:Nat} {T:List (List Int)} (hw:WorldOk s z T) (env:List Int) {f:Int} (hb:Blind s f) (l:List I_Term) (hl:l≠[]) (h:∀x∈l,FormOk s (norm s x)):
  mean s z T env (norm s ⟨f,0,l⟩)=foldV z (rd_Ls_i64 T f) (l.map fun x=>mean s z T env (norm s x)):=by
 have sq:=row_sq hw hb
 have hi:=row_indiff hw hb
 have p:=(normL_gat (B_iff.2 hb) l [] [] List.Pairwise.nil (List.Perm.refl _)).2
 have h3:=(gat_form hb l h).1
 have node:∀(v:Int) (k:List I_Term),mean s z T env ⟨f,v,k⟩=foldV z (rd_Ls_i64 T f) (k.map (mean s z T env)):=by
  intro v k
  rw [mean_eq,nodeV,if_neg (by have:=hb.1;show ¬f= -1;omega),if_pos (B_iff.2 hb),meanL_map]
 rw [norm,node,foldV_perm sq hi (p.map _) (inR_means hw env fun x hx=>(h3 x (p.mem_iff.1 hx)).1)]
 clear p h3
 induction l with
 | nil=>exact absurd rfl hl
 | cons x l ih=>
  have hx:=h x (by simp)
  obtain ⟨g1,g2⟩:=grp_form hb hx
  have gv:foldV z (rd_Ls_i64 T f) ((grp f (norm s x)).map (mean s z T env))=mean s z T env (norm s x):=by
   unfold grp
   split
   ·rename_i hf
    have:=node (norm s x).f1 (norm s x).f2
    rw [←this,←hf,tEta]
   ·rfl
  rw [gat_cons hb,List.map_append]
  cases l with
  | nil=>rw [gat,List.map_nil,List.append_nil];exact gv
  | cons y l=>
   obtain ⟨h3,h4⟩:=gat_form hb (y::l) (fun w hw=>h w (by simp at hw⊢;exact Or.inr hw))
   have ih':=ih (by simp) (fun w hw=>h w (by simp at hw⊢;exact Or.inr hw))
   rw [foldV_app sq hi _ _ (inR_means hw env fun w hw=>(g1 w hw).1) (inR_means hw env fun w hw=>(h3 w hw).1) (by simpa using g2) (by
    intro e;have:=congrArg List.length e;rw [List.length_map] at this;simp at this h4;rw [this] at h4;simp at h4),gv,ih']
   rw [List.map_cons (l:=y::l),foldV_cons sq hi _ _ (mean_rng hw env _ hx) (by
    intro v hv
    obtain ⟨w,hw',rfl⟩:=List.mem_map.1 hv
    exact mean_rng hw env _ (h w (by simp at hw'⊢;exact Or.inr hw'))) (by simp)]
theorem impl_copyTerms_of (l:List I_Term) (hl:l.length≤1000000000) (h:∀x∈l,Ev (fun k=>fQ54.f k x.f0 x.f1 x.f2) (x.f0,x.f1,x.f2)):Ev (fun k=>fQ34.f k l) l:=by
 refine Wp.ev ?_
 refine Wp.step (fun k=>by rw [fQ34.f]) ?_
 refine Wp.each1 l zI_Term hl (fun k i b=>fQ34.l0 k b l l.length i) (fun p b=>b=p) ?_ ?_ [] rfl
 ·intro p x q b e m hn hr hw hI jh
  subst hI
  refine Wp.step (fun k=>by rw [fQ34.l0]) ?_
  have r1:rd_I_Term l (b.length:Int)=x:=hr
  have nxt:=jh (b++[x]) rfl
  rw [r1,hw.e]
  refine Wp.itet (by omega) (Wp.itet (Int.natCast_nonneg _) (Wp.itet (by omega) (Wp.bindE (h x m) (Wp.itet (by simp only [List.length_cons,List.length_nil];omega) ?_))))
  rw [tEta]
  exact nxt
 ·intro b hI
  refine Wp.step (fun k=>by rw [fQ34.l0]) ?_
  exact Wp.itef (by omega) (Wp.ret hI)
theorem impl_copyTerm_ev (t:I_Term):sz t≤1000000000→Ev (fun k=>fQ54.f k t.f0 t.f1 t.f2) (t.f0,t.f1,t.f2):=by
 induction t using tInd with
 | h t ih=>
 intro ht
 have hlen:=sz_kids t
 refine Wp.ev ?_
 refine Wp.step (fun k=>by rw [fQ54.f]) ?_
 exact Wp.bindE (impl_copyTerms_of t.f2 (by omega) fun x hx=>ih x hx (by have:=sz_kid hx;omega)) (Wp.ret rfl)
theorem laws_at_wp (b:List Int) (i:Nat):Wp (fun _=>laws_at.f b i) (fun _=>True):=by
 unfold laws_at.f
 exact Wp.ite (fun h=>Wp.itet (Int.natCast_nonneg _) (Wp.ret trivial)) (fun _=>Wp.ret trivial)
theorem impl_Value_ev {s:List I_Sym} (hs:Names s) {T:List (List Int)} (hT:Rows T) (hw:WorldOk s 2 T) (env:List Int) (he:env.length≤1000000000) (t:I_Term) (h:sz t≤1000000000) (ht:TermOk s t):Ev (fun k=>fQ53.f k s T t.f0 t.f1 t.f2 env) (mean s 2 T env t):=by
 unfold fQ53.f
 exact Wp.ev (Wp.bindE (impl_ModelOk_ev s T hs hT) (Wp.itet (B_iff.2 hw) (Wp.bindE (impl_TermOk_ev s hs t h) (Wp.itet (B_iff.2 ht) (Wp.bindE (impl_asWorld_ev T) (Wp.bindE (impl_means_ev hs hw env he t h ht.2.2) (Wp.ret rfl)))))))
theorem rd_set_eq {e:List Int} {v:Int} (x:Int) (h:v.toNat<e.length):rd (e.set v.toNat x) v=x:=by
 show (e.set v.toNat x).getD v.toNat 0=x
 rw [List.getD_eq_getElem?_getD,List.getElem?_set_self h];rfl
theorem rd_set_ne {e:List Int} {v w:Int} (x:Int) (h:w.toNat≠v.toNat):rd (e.set w.toNat x) v=rd e v:=by
 show (e.set w.toNat x).getD v.toNat 0=e.getD v.toNat 0
 rw [List.getD_eq_getElem?_getD,List.getD_eq_getElem?_getD,List.getElem?_set_ne h]
theorem spec_Parts_ev (t:I_Term):sz t≤1000000000→Ev (fun k=>fQ44.f k t.f0 t.f1 t.f2) (sz t:Int):=by
 induction t using tInd with
 | h t ih=>
 intro h
 have hlen:=sz_kids t
 have hsz:=sz_eq t
 refine Wp.ev ?_
 refine Wp.step (fun k=>by rw [fQ44.f]) ?_
 refine Wp.each1 t.f2 zI_Term (by omega) (fun k i a=>fQ44.l0 k a i t.f0 t.f1 t.f2) (fun p a=>a=((1+szs p:Nat):Int)) ?_ ?_ _ (by simp [szs])
 ·intro p x q a e m hn hr hw hI jh
  refine Wp.step (fun k=>by rw [fQ44.l0]) ?_
  have r1:rd_I_Term t.f2 (p.length:Int)=x:=hr
  have h2:szs t.f2=szs p+(sz x+szs q):=by rw [e,szs_append,szs]
  rw [r1,hw.e]
  refine Wp.itet (by omega) (Wp.itet (Int.natCast_nonneg _) (Wp.bindE (ih x m (by omega)) ?_))
  rw [hI,wrap_id (by omega) (by omega)]
  exact jh _ (by rw [szs_append,szs,szs];omega)
 ·intro a hI
  refine Wp.step (fun k=>by rw [fQ44.l0]) ?_
  exact Wp.itef (by omega) (Wp.ret (by rw [hI];omega))
theorem spec_l4Right_ev (s:List I_Sym) (hs:Names s) (t:I_Term):sz t≤1000000000→Ev (fun k=>fQ24.f k s t.f0 t.f1 t.f2) (B (FormOk s t)):=by
 induction t using tInd with
 | h t ih=>
 intro h
 have hlen:=sz_kids t
 have hsl:=hs.1
 refine Wp.ev ?_
 refine Wp.step (fun k=>by rw [fQ24.f]) ?_
 have loop:t.f0≠-1→(0≤t.f0∧t.f0<(s.length:Int))→t.f1=0→((rd_I_Sym s t.f0).f2=false→(t.f2.length:Int)=(rd_I_Sym s t.f0).f1)→((rd_I_Sym s t.f0).f2=true→2≤t.f2.length)→Wp (fun k=>fQ24.l0 k s 0 t.f0 t.f1 t.f2) (fun r=>r=B (FormOk s t)):=by
  intro h0 h1 h2 h3 h4
  refine (Wp.all (Φ:=fun i=>FormOk s (rd_I_Term t.f2 i)∧KidOk s t.f0 t.f2 i) (Ψ:=True) t.f2.length (by omega) (fun k i=>fQ24.l0 k s i t.f0 t.f1 t.f2) ?_ ?_).wp (B_congr (formOk_iff h0 h1 h2 h3 h4))
  ·intro i P hi hw hT hF
   refine Wp.step (fun k=>by rw [fQ24.l0]) ?_
   have m:=rdTerm_mem (l:=t.f2) (i:=i) (by omega) (by omega)
   have hx:=sz_kid m
   have e1:0<i→wrap64 ((i:Int) - 1)=(i:Int) - 1:=fun _=>wrap_id (by omega) (by omega)
   simp only [hw.e]
   repeat' (first|(with_reducible first|refine qtB ?_|refine qfB ?_|refine qt ?_|refine qf ?_)|(with_reducible refine Wp.bindE (ih _ m (by omega)) ?_)|(rw [e1 (by omega)])|(with_reducible refine Wp.bindE (spec_Before_ev _ (by omega) _) ?_)|(simp only [decide_eq_true_eq])|(with_reducible refine Wp.ret ?_)|(with_reducible refine ql ?_)|(with_reducible refine Wp.iteB (fun hc=>?_) (fun hc=>?_))|(with_reducible refine Wp.ite (fun hc=>?_) (fun hc=>?_)))
   all_goals first | exact hT ⟨by assumption,by unfold KidOk;intro h5;simp_all;try omega⟩ | exact hF (by unfold KidOk;rintro ⟨h5,h6⟩;simp_all;try omega)
  ·intro _
   refine Wp.step (fun k=>by rw [fQ24.l0]) ?_
   refine Wp.itef (by omega) (Wp.ret ?_)
   rw [eqB];simp
 have ew:wrap64 ((s.length:Int) - 1)=(s.length:Int) - 1:=wrap_id (by omega) (by omega)
 rw [ew]
 refine Wp.ite (fun hv=>Wp.bindE (spec_l1In_ev _ _ _) (Wp.iteB (fun h1=>Wp.ret ?_) (fun h1=>Wp.ret ?_))) (fun hv=>Wp.bindE (spec_l1In_ev _ _ _) (Wp.iteB (fun h1=>Wp.ite (fun h2=>Wp.itet h1.1 (Wp.itet (by omega) (Wp.ite (fun h3=>Wp.ite (fun h4=>Wp.ret ?_) (fun h4=>loop hv (by omega) h2 (fun h=>by rw [h3] at h;cases h) (fun _=>by omega))) (fun h3=>Wp.ite (fun h4=>loop hv (by omega) h2 (fun _=>h4) (fun h=>absurd h h3)) (fun h4=>Wp.ret ?_))))) (fun h2=>Wp.ret ?_)) (fun h1=>Wp.ret ?_)))
 all_goals (rw [eqB];constructor)
 all_goals first | (intro h5;cases h5;done) | skip
 ·intro h5
  simp only [decide_eq_true_eq] at h5
  refine .mk t (.inl ⟨hv,h1,by omega⟩) ?_
  have:t.f2=[]:=List.length_eq_zero_iff.1 (by omega)
  rw [this];intro x hx;cases hx
 all_goals (intro h5;rcases h5.row with r | r <;> simp_all <;> omega)
theorem spec_TermOk_ev (s:List I_Sym) (hs:Names s) (t:I_Term) (h:sz t≤1000000000):Ev (fun k=>fQ58.f k s t.f0 t.f1 t.f2) (B (TermOk s t)):=by
 refine Wp.ev ?_
 unfold fQ58.f
 repeat' (first|(with_reducible first|refine qtB ?_|refine qfB ?_|refine qt ?_|refine qf ?_)|(with_reducible refine Wp.bindE (spec_SigOk_ev s hs) ?_)|(with_reducible refine Wp.bindE (spec_Parts_ev t h) ?_)|(with_reducible refine Wp.bindE (spec_l4Right_ev s hs t h) ?_)|(simp only [decide_eq_true_eq])|(with_reducible refine Wp.ret ?_)|(with_reducible refine ql ?_)|(with_reducible refine Wp.iteB (fun hc=>?_) (fun hc=>?_))|(with_reducible refine Wp.ite (fun hc=>?_) (fun hc=>?_)))
 ·exact B_congr ⟨fun h=>⟨by assumption,by assumption,h⟩,fun h=>h.2.2⟩
 ·rw [eqB];unfold TermOk;grind
 ·rw [eqB];unfold TermOk;grind
theorem varV_two (env:List Int) (v:Int) (h:v<(env.length:Int)):varV 2 env v=if (rd env v) % 2=1 then 1 else 0:=by
 unfold varV
 rw [if_neg (by omega)]
 have h:=Int.mul_tdiv_add_tmod (rd env v) 2
 have h1:=Int.lt_tmod_of_pos (rd env v) (b:=2) (by omega)
 have h2:=Int.tmod_lt_of_pos (rd env v) (b:=2) (by omega)
 generalize hx:(rd env v).tmod 2=x at h h1 h2⊢
 generalize (rd env v).tdiv 2=y at h
 have h3:x= -1∨x=0∨x=1:=by omega
 rcases h3 with rfl | rfl | rfl
 ·rw [if_pos (by omega)];decide
 ·rw [if_neg (by omega)];decide
 ·rw [if_pos (by omega)];decide
theorem wrN {m:Nat} (h:m≤1000000000000):wrap64 (m:Int)=(m:Int):=wrap_id (by omega) (by omega)
theorem varV_agree {z:Int} {env env':List Int} {v:Int} (hl:env.length=env'.length) (h:rd env v=rd env' v):varV z env v=varV z env' v:=by unfold varV;rw [hl,h]
theorem Fin_.mono {α:Type} {P Q:α→Prop} (h:Fin_ P) (k:∀a,Q a→P a):Fin_ Q:=by
 obtain ⟨L,hL⟩:=h
 exact ⟨L,fun y hy=>hL y (k y hy)⟩
theorem Fin_.prod {α β:Type} {P:α→Prop} {Q:β→Prop} (h:Fin_ P) (k:Fin_ Q):Fin_ (fun y:α×β=>P y.1∧Q y.2):=by
 obtain ⟨L,hL⟩:=h
 obtain ⟨M,hM⟩:=k
 exact ⟨L.flatMap fun a=>M.map fun b=>(a,b),fun y hy=>List.mem_flatMap.2 ⟨y.1,hL _ hy.1,List.mem_map.2 ⟨y.2,hM _ hy.2,rfl⟩⟩⟩
theorem Fin_.one {α:Type} (a:α):Fin_ (fun y=>y=a):=⟨[a],fun y hy=>by rw [hy];exact List.mem_singleton.2 rfl⟩
theorem Fin_.list {α:Type} {P:α→Prop} (h:Fin_ P):∀n:Nat,Fin_ (fun l:List α=>l.length≤n∧∀x∈l,P x):=by
 obtain ⟨L,hL⟩:=h
 intro n
 induction n with
 | zero=>exact ⟨[[]],fun l hl=>by rw [List.length_eq_zero_iff.1 (Nat.le_zero.1 hl.1)];exact List.mem_singleton.2 rfl⟩
 | succ n ih=>
  obtain ⟨M,hM⟩:=ih
  refine ⟨[]::L.flatMap fun a=>M.map fun b=>a::b,fun l hl=>?_⟩
  cases l with
  | nil=>exact List.mem_cons_self
  | cons a l=>exact List.mem_cons_of_mem _ (List.mem_flatMap.2 ⟨a,hL _ (hl.2 a List.mem_cons_self),List.mem_map.2 ⟨l,hM _ ⟨Nat.le_of_succ_le_succ hl.1,fun x hx=>hl.2 x (List.mem_cons_of_mem _ hx)⟩,rfl⟩⟩)
def Sm (x:Int):Prop:= -100≤x∧x≤100
theorem fin_Sm:Fin_ Sm:=⟨(List.range 201).map fun n:Nat=>(n:Int) - 100,fun x hx=>List.mem_map.2 ⟨(x+100).toNat,List.mem_range.2 (by have:=hx.2;omega),by have:=hx.1;omega⟩⟩
theorem Dm.step {Y:Type} {P:Y→Prop} {G G':Nat→(R:Type)→(Y→Option R)→Option R} (h:∀k R K,G (k+1) R K=G' k R K) (d:Dm G' P):Dm G P:=by
 obtain ⟨hP,M,hM⟩:=d
 refine ⟨hP,M+1,fun k hk R K r hK=>?_⟩
 obtain ⟨k,rfl⟩:∃j,k=j+1:=⟨k - 1,by omega⟩
 rw [h]
 exact hM k (by omega) R K r hK
theorem chS_int {W:Dyn TT.ST→Prop} {k:IntKind} {n m:Int} (h:ChS TT W (.int k n) (.int k m)):m=n:=by
 rcases h with h | ⟨e,xs,ys,h,_⟩
 ·injection h with _ h;exact h.symm
 ·cases h
theorem wrS2 {m n:Nat} (h:m+n≤200):wrap64 ((m:Int)+(n:Int))=((m+n:Nat):Int):=by rw [←Int.natCast_add];exact wrN (by omega)
theorem snoc_all {α:Type} {P:α→Prop} {l:List α} {a:α} (h:∀x∈l,P x) (ha:P a):∀x∈l++[a],P x:=by
 intro x hx
 rcases List.mem_append.1 hx with hx | hx
 ·exact h x hx
 ·rw [List.mem_singleton.1 hx];exact ha
inductive Lab:I_Term→Prop
 | mk (t:I_Term):Sm t.f0→Sm t.f1→(∀x∈t.f2,Lab x)→Lab t
theorem lab_f0 {t:I_Term} (h:Lab t):Sm t.f0:=by cases h;assumption
theorem lab_f1 {t:I_Term} (h:Lab t):Sm t.f1:=by cases h;assumption
theorem lab_kid {t:I_Term} (h:Lab t):∀x∈t.f2,Lab x:=by cases h;assumption
def Dr (n:Nat) (t:I_Term):Prop:=sz t≤n∧Lab t
def Drs (n:Nat) (l:List I_Term):Prop:=szs l≤n∧∀x∈l,Lab x
theorem dr_le {n m:Nat} {t:I_Term} (h:Dr n t) (k:n≤m):Dr m t:=⟨Nat.le_trans h.1 k,h.2⟩
theorem fin_map {α β:Type} {P:α→Prop} (h:Fin_ P) (g:α→β):Fin_ (fun y=>∃x,P x∧y=g x):=by
 obtain ⟨L,hL⟩:=h
 exact ⟨L.map g,fun y hy=>by obtain ⟨x,hx,rfl⟩:=hy;exact List.mem_map.2 ⟨x,hL x hx,rfl⟩⟩
theorem fin_Dr (n:Nat):Fin_ (Dr n):=by
 induction n with
 | zero=>exact ⟨[],fun t h=>by have:=h.1;rw [sz_eq] at this;omega⟩
 | succ n ih=>
  refine Fin_.mono (fin_map (Fin_.prod fin_Sm (Fin_.prod fin_Sm (Fin_.list ih n))) (fun p=>(⟨p.1,p.2.1,p.2.2⟩:I_Term))) fun t h=>?_
  have h1:=h.1
  have h2:=sz_kids t
  exact ⟨(t.f0,t.f1,t.f2),⟨lab_f0 h.2,lab_f1 h.2,by show t.f2.length≤n;omega,fun x hx=>⟨by have:=sz_kid hx;omega,lab_kid h.2 x hx⟩⟩,(tEta t).symm⟩
theorem fin_Drs (n:Nat):Fin_ (Drs n):=by
 refine Fin_.mono (Fin_.list (fin_Dr n) n) fun l h=>⟨Nat.le_trans (szs_len l) h.1,fun x hx=>⟨Nat.le_trans (szs_mem hx) h.1,h.2 x hx⟩⟩
theorem dr_mk {n:Nat} {a v:Int} {l:List I_Term} (h0:Sm a) (h1:Sm v) (h:Drs n l):Dr (n+1) ⟨a,v,l⟩:=⟨by rw [sz];have:=h.1;omega,.mk _ h0 h1 h.2⟩
theorem dr_kids {n:Nat} {t:I_Term} (h:Dr (n+1) t):Drs n t.f2:=⟨by have:=h.1;rw [sz_eq] at this;omega,lab_kid h.2⟩
theorem lab_raw {v:Int} (hv:v≤100):∀{d:Nat} {t:I_Term},Raw v d t→Lab t:=by
 have leaf:∀t:I_Term,(t.f0= -1∧0≤t.f1∧t.f1<v∧t.f2=[])∨((t.f0=1∨t.f0=2)∧t.f1=0∧t.f2=[])→Lab t:=by
  rintro t (⟨h0,h1,h2,h3⟩ | ⟨h0,h1,h3⟩) <;> exact .mk t ⟨by omega,by omega⟩ ⟨by omega,by omega⟩ (fun x hx=>by rw [h3] at hx;cases hx)
 intro d
 induction d with
 | zero=>intro t h;exact leaf t h
 | succ d ih=>
  rintro t (h | h | ⟨h1,⟨h0,a,ha,h2⟩ | ⟨h0,a,b,ha,hb,h2⟩⟩)
  ·exact leaf t (.inl h)
  ·exact leaf t (.inr h)
  ·exact .mk t ⟨by omega,by omega⟩ ⟨by omega,by omega⟩ (fun x hx=>by rw [h2,List.mem_singleton] at hx;rw [hx];exact ih ha)
  ·refine .mk t ⟨by omega,by omega⟩ ⟨by omega,by omega⟩ (fun x hx=>?_)
   rw [h2] at hx
   rcases List.mem_cons.1 hx with rfl | hx
   ·exact ih ha
   ·rw [List.mem_singleton.1 hx];exact ih hb
theorem lab_norm (s:List I_Sym) {t:I_Term}:Lab t→Lab (norm s t):=by
 induction t using tInd with
 | h t ih=>
  intro h
  have add:∀(acc:List I_Term) (k:I_Term),(∀x∈acc,Lab x)→Lab k→∀x∈addK s t.f0 acc k,Lab x:=by
   intro acc k ha hk x hx
   unfold addK at hx
   split at hx
   ·split at hx
    ·have:=(foldput_perm k.f2 acc).mem_iff.1 hx
     rcases List.mem_append.1 this with h1 | h1
     ·exact ha x h1
     ·exact lab_kid hk x h1
    ·rcases List.mem_cons.1 ((putT_perm k acc).mem_iff.1 hx) with rfl | h1
     ·exact hk
     ·exact ha x h1
   ·rcases List.mem_append.1 hx with h1 | h1
    ·exact ha x h1
    ·rw [List.mem_singleton.1 h1];exact hk
  have all:∀(l acc:List I_Term),(∀x∈l,Lab (norm s x))→(∀x∈acc,Lab x)→∀x∈normL s t.f0 l acc,Lab x:=by
   intro l
   induction l with
   | nil=>intro acc _ ha;rw [normL];exact ha
   | cons a l ihl=>
    intro acc hl ha
    rw [normL]
    exact ihl _ (fun x hx=>hl x (List.mem_cons_of_mem _ hx)) (add acc _ ha (hl a List.mem_cons_self))
  exact .mk _ (by rw [norm_f0];exact lab_f0 h) (by rw [norm_f1];exact lab_f1 h) (by rw [norm_f2];exact all t.f2 [] (fun x hx=>ih x hx (lab_kid h x hx)) (fun x hx=>nomatch hx))
structure WT (W:Dyn TT.ST→Prop) (m:Nat):Prop where
 i:∀v,W (.int .i64 v)→Sm v
 l:∀l:List I_Term,W (.lst E_I_Term l)→Drs m l
 u:∀n,¬W (.int .u8 n)
def ChTm (W:Dyn TT.ST→Prop) (a b:I_Term):Prop:=∀(j:Nat) (p q:Dyn TT.ST),(cellsE TT E_I_Term a)[j]?=some p→(cellsE TT E_I_Term b)[j]?=some q→ChD TT W p q
theorem chD_i {W:Dyn TT.ST→Prop} {n m:Int} (h:ChD TT W (.int .i64 n) (.int .i64 m)):m=n∨W (.int .i64 m):=by
 cases h with
 | same=>exact .inl rfl
 | put _ _ _ hw=>exact .inr hw
theorem chD_t {W:Dyn TT.ST→Prop} {x y:List I_Term} (h:ChD TT W (.lst E_I_Term x) (.lst E_I_Term y)):y=x∨W (.lst E_I_Term y)∨(y.length=x.length∧∀(i:Nat) (a b:I_Term),x[i]?=some a→y[i]?=some b→ChTm W a b):=by
 cases h with
 | same=>exact .inl rfl
 | put _ _ _ hw=>exact .inr (.inl hw)
 | lst _ _ _ hl h=>exact .inr (.inr ⟨hl,fun i a b ha hb j p q hp hq=>h i a b ha hb j p q hp hq⟩)
theorem ch_list {m:Nat}:∀(x y:List I_Term),y.length=x.length→(∀(i:Nat) (a b:I_Term),x[i]?=some a→y[i]?=some b→Lab b∧sz b≤sz a*(m+1))→szs y≤szs x*(m+1)∧∀b∈y,Lab b:=by
 intro x
 induction x with
 | nil=>intro y hl _;rw [List.length_eq_zero_iff.1 hl];exact ⟨by rw [szs];exact Nat.zero_le _,fun b hb=>nomatch hb⟩
 | cons a x ih=>
  intro y hl h
  cases y with
  | nil=>simp at hl
  | cons b y=>
   obtain ⟨h1,h2⟩:=h 0 a b rfl rfl
   obtain ⟨h3,h4⟩:=ih y (by simpa using hl) (fun i p q hp hq=>h (i+1) p q (by simpa using hp) (by simpa using hq))
   refine ⟨by rw [szs,szs,Nat.add_mul];omega,fun c hc=>?_⟩
   rcases List.mem_cons.1 hc with rfl | hc
   ·exact h1
   ·exact h4 c hc
theorem ch_tm {W:Dyn TT.ST→Prop} {m:Nat} (hW:WT W m) (a:I_Term):∀b:I_Term,ChTm W a b→Lab a→Lab b∧sz b≤sz a*(m+1):=by
 induction a using tInd with
 | h a ih=>
  intro b h hl
  have h0:=chD_i (h 0 (.int .i64 a.f0) (.int .i64 b.f0) rfl rfl)
  have h1:=chD_i (h 1 (.int .i64 a.f1) (.int .i64 b.f1) rfl rfl)
  have h2:=chD_t (h 2 (.lst E_I_Term a.f2) (.lst E_I_Term b.f2) rfl rfl)
  have s0:Sm b.f0:=by rcases h0 with e | e;rw [e];exact lab_f0 hl;exact hW.i _ e
  have s1:Sm b.f1:=by rcases h1 with e | e;rw [e];exact lab_f1 hl;exact hW.i _ e
  have ha:=sz_eq a
  have key:∀n,szs b.f2≤n→n+1≤sz a*(m+1)→(∀x∈b.f2,Lab x)→Lab b∧sz b≤sz a*(m+1):=fun n q1 q2 q3=>⟨.mk b s0 s1 q3,by rw [sz_eq b];omega⟩
  have e1:sz a*(m+1)=szs a.f2*(m+1)+(m+1):=by rw [ha,Nat.succ_mul]
  rcases h2 with e | e | ⟨e,f⟩
  ·refine key (szs a.f2) (by rw [e];exact Nat.le_refl _) ?_ (by rw [e];exact lab_kid hl)
   have:szs a.f2*1≤szs a.f2*(m+1):=Nat.mul_le_mul_left _ (by omega)
   omega
  ·have:=hW.l _ e
   exact key m this.1 (by rw [e1];omega) this.2
  ·obtain ⟨q1,q2⟩:=ch_list (m:=m) a.f2 b.f2 e (fun i p q hp hq=>ih p (List.mem_of_getElem? hp) q (f i p q hp hq) (lab_kid hl p (List.mem_of_getElem? hp)))
   exact key _ q1 (by rw [e1];omega) q2
theorem chS_t {W:Dyn TT.ST→Prop} {m n:Nat} (hW:WT W m) {x y:List I_Term} (h:ChS TT W (.lst E_I_Term x) (.lst E_I_Term y)) (hx:Drs n x):Drs (n*(m+1)) y:=by
 have hn:szs x*(m+1)≤n*(m+1):=Nat.mul_le_mul_right _ hx.1
 rcases h with h | ⟨e,xs,ys,h1,h2,hl,h⟩
 ·have:y=x:=by injection h with _ h;exact h.symm
  rw [this]
  have:szs x*1≤szs x*(m+1):=Nat.mul_le_mul_left _ (by omega)
  exact ⟨by omega,hx.2⟩
 ·cases h1
  cases h2
  obtain ⟨q1,q2⟩:=ch_list (m:=m) x y hl (fun i p q hp hq=>ch_tm hW p q (fun j a b ha hb=>h i p q hp hq j a b ha hb) (hx.2 p (List.mem_of_getElem? hp)))
  exact ⟨by omega,q2⟩
theorem chS_b {W:Dyn TT.ST→Prop} (hu:∀n,¬W (.int .u8 n)) {x y:List Int} (h:ChS TT W (.lst (.int .u8) x) (.lst (.int .u8) y)):y=x:=by
 rcases h with h | ⟨e,xs,ys,h1,h2,hl,h⟩
 ·injection h with _ h;exact h.symm
 ·cases h1
  cases h2
  refine List.ext_getElem hl (fun i a b=>?_)
  have key:∀p q:Int,ChD TT W (.int .u8 p) (.int .u8 q)→q=p:=by
   intro p q h
   cases h with
   | same=>rfl
   | put _ _ _ hw=>exact absurd hw (hu _)
  exact key _ _ (h i _ _ (List.getElem?_eq_getElem b) (List.getElem?_eq_getElem a) 0 _ _ rfl rfl)
@[reducible] noncomputable def es8:List E:=[.int .i64,.int .i64,.int .i64,.int .i64,.lst E_I_Term,.lst (.int .u8),.int .i64,.int .i64]
theorem ch8t {W:Dyn TT.ST→Prop} {m:Nat} (hW:WT W m) {x y:TupT ST es8} (h:ChT TT W es8 x y):
  y.1=x.1∧y.2.1=x.2.1∧y.2.2.1=x.2.2.1∧y.2.2.2.1=x.2.2.2.1∧ChS TT W (.lst E_I_Term x.2.2.2.2.1) (.lst E_I_Term y.2.2.2.2.1)∧y.2.2.2.2.2.1=x.2.2.2.2.2.1∧y.2.2.2.2.2.2.1=x.2.2.2.2.2.2.1∧y.2.2.2.2.2.2.2=x.2.2.2.2.2.2.2:=by
 obtain ⟨⟨_,_,h1,h2,a⟩,⟨_,_,h3,h4,b⟩,⟨_,_,h5,h6,c⟩,⟨_,_,h7,h8,d⟩,⟨_,_,h9,h10,e⟩,⟨_,_,h11,h12,f⟩,⟨_,_,h13,h14,g⟩,⟨_,_,h15,h16,i⟩,_⟩:=h
 cases h1;cases h2;cases h3;cases h4;cases h5;cases h6;cases h7;cases h8;cases h9;cases h10;cases h11;cases h12;cases h13;cases h14;cases h15;cases h16
 exact ⟨chS_int a,chS_int b,chS_int c,chS_int d,e,chS_b hW.u f,chS_int g,chS_int i⟩
theorem wt_int {v:Int} (hv:Sm v):WT (fun d=>d=.int .i64 v) 0:=by
 refine ⟨fun w h=>?_,fun l h=>?_,fun n h=>?_⟩
 ·injection h with _ h;rw [h];exact hv
 ·cases h
 ·injection h with h _;cases h
theorem wt_lst {m:Nat} {L:List I_Term} (h:Drs m L):WT (fun d=>d=.lst E_I_Term L) m:=by
 refine ⟨fun w h=>?_,fun l e=>?_,fun n h=>?_⟩
 ·cases h
 ·cases e;exact h
 ·cases h
theorem wt_x {m:Nat} {x:I_Term} (h:Dr (m+1) x):WT (Wx TT E_I_Term x) m:=by
 have cs:cellsE TT E_I_Term x=[.int .i64 x.f0,.int .i64 x.f1,.lst E_I_Term x.f2]:=rfl
 have key:∀d,Wx TT E_I_Term x d→d=.int .i64 x.f0∨d=.int .i64 x.f1∨d=.lst E_I_Term x.f2:=by
  rintro d ⟨j,hj⟩
  rw [cs] at hj
  have:=List.mem_of_getElem? hj
  simpa using this
 refine ⟨fun v hv=>?_,fun l hl=>?_,fun n hn=>?_⟩
 ·rcases key _ hv with e | e | e
  ·injection e with _ e;rw [e];exact lab_f0 h.2
  ·injection e with _ e;rw [e];exact lab_f1 h.2
  ·cases e
 ·rcases key _ hl with e | e | e
  ·cases e
  ·cases e
  ·cases e;exact dr_kids h
 ·rcases key _ hn with e | e | e
  ·injection e with e _;cases e
  ·injection e with e _;cases e
  ·cases e
theorem Dm.shift {Y:Type} {P:Y→Prop} {G:Nat→(R:Type)→(Y→Option R)→Option R} {g:Nat→Nat} (hg:∀n,n≤g n) (h:Dm G P):Dm (fun n R K=>G (g n) R K) P:=by
 obtain ⟨hP,M,hM⟩:=h
 exact ⟨hP,M,fun n hn R K r hK=>hM (g n) (Nat.le_trans hn (hg n)) R K r hK⟩
theorem raw_dr {v:Int} (hv:v≤100) {d n:Nat} {t:I_Term} (h:Raw v d t) (hn:2 ^ (d+1)≤n+1):Dr n t:=⟨by have:=Raw.sz h;omega,lab_raw hv h⟩
theorem eq_relB {Y:Type} {P:Y→Prop} {Z:Type} {Q:Z→Prop} (hQ:Fin_ Q) (hP:Fin_ P) (hn:∃y,P y) {F:Y→Nat→(R:Type)→(Z→Option R)→Option R} (h:∀y,P y→Dm (F y) Q):Dm (fun n R K=>relB P (fun y=>F y n R K)) Q:=
 Dm.rel (G:=fun _ R K=>relB P K) hQ (relB_dm hP hn) h
theorem fin_t8 {n:Nat} (x:TupT ST es8):Fin_ (fun y:TupT ST es8=>y.1=x.1∧y.2.1=x.2.1∧y.2.2.1=x.2.2.1∧y.2.2.2.1=x.2.2.2.1∧Drs n y.2.2.2.2.1∧y.2.2.2.2.2.1=x.2.2.2.2.2.1∧y.2.2.2.2.2.2.1=x.2.2.2.2.2.2.1∧y.2.2.2.2.2.2.2=x.2.2.2.2.2.2.2):=
 Fin_.prod (Fin_.one _) (Fin_.prod (Fin_.one _) (Fin_.prod (Fin_.one _) (Fin_.prod (Fin_.one _) (Fin_.prod (fin_Drs n) (Fin_.prod (Fin_.one _) (Fin_.prod (Fin_.one _) (Fin_.one _)))))))
theorem l3_int {Y:Type} {P:Y→Prop} (hP:Fin_ P) (F:Int×Int×List I_Term×List Int×Int×Int→Nat→(R:Type)→(Y→Option R)→Option R) (hF:∀y,Dr 1000 ⟨y.1,y.2.1,y.2.2.1⟩→Cur y.2.2.2.1 y.2.2.2.2.1→Dm (F y) P) {g:Nat→Nat} (hg:∀n,n≤g n) {v:Int} (hv:Sm v) {p q a w i h:Int} {l:List I_Term} {b:List Int} (hl:Drs 6 l) (ha:Sm a) (hw:Sm w) (hc:Cur b i):
  Dm (fun n R K=>relB (fun y:TupT ST es8=>ChT TT (fun d=>d=.int .i64 v) es8 (p,q,a,w,l,b,i,h) y) (fun y=>F (y.2.2.1,y.2.2.2.1,y.2.2.2.2.1,y.2.2.2.2.2.1,y.2.2.2.2.2.2.1,y.2.2.2.2.2.2.2) (g n) R K)) P:=by
 refine eq_relB hP ((fin_t8 (n:=6) (p,q,a,w,l,b,i,h)).mono fun y hy=>?_) ⟨_,CL.refl (allD_cells _ _)⟩ fun y hy=>Dm.shift hg (hF _ ?_ ?_)
 ·obtain ⟨e1,e2,e3,e4,e5,e6,e7,e8⟩:=ch8t (wt_int hv) hy
  exact ⟨e1,e2,e3,e4,chS_t (wt_int hv) e5 hl,e6,e7,e8⟩
 ·obtain ⟨e1,e2,e3,e4,e5,e6,e7,e8⟩:=ch8t (wt_int hv) hy
  exact dr_le (dr_mk (by rw [e3];exact ha) (by rw [e4];exact hw) (chS_t (wt_int hv) e5 hl)) (by decide)
 ·obtain ⟨e1,e2,e3,e4,e5,e6,e7,e8⟩:=ch8t (wt_int hv) hy
  show Cur y.2.2.2.2.2.1 y.2.2.2.2.2.2.1
  rw [e6,e7];exact hc
theorem l3_box {Y:Type} {P:Y→Prop} (hP:Fin_ P) (F:Int×Int×List I_Term×List Int×Int×Int→Nat→(R:Type)→(Y→Option R)→Option R) (hF:∀y,Dr 1000 ⟨y.1,y.2.1,y.2.2.1⟩→Cur y.2.2.2.1 y.2.2.2.2.1→Dm (F y) P) {g:Nat→Nat} (hg:∀n,n≤g n) {x:I_Term} (hx:Dr 3 x) {p q a w i h:Int} {l:List I_Term} {b:List Int} (hl:Drs 6 l) (ha:Sm a) (hw:Sm w) (hc:Cur b i):
  Dm (fun n R K=>relB (fun y:TupT ST es8×List I_Term=>ChT TT (Wx TT E_I_Term x) es8 (p,q,a,w,l,b,i,h) y.1∧ChS TT (Wx TT E_I_Term x) (.lst E_I_Term l) (.lst E_I_Term y.2)) (fun y=>F (y.1.2.2.1,y.1.2.2.2.1,y.2++[x],y.1.2.2.2.2.2.1,y.1.2.2.2.2.2.2.1,y.1.2.2.2.2.2.2.2) (g n) R K)) P:=by
 have hW:=wt_x (m:=2) hx
 have hx1:=hx.1
 refine eq_relB hP ((Fin_.prod (fin_t8 (n:=18) (p,q,a,w,l,b,i,h)) (fin_Drs 18)).mono fun y hy=>?_) ⟨((p,q,a,w,l,b,i,h),l),CL.refl (allD_cells _ _),.inl rfl⟩ fun y hy=>Dm.shift hg (hF _ ?_ ?_)
 ·obtain ⟨e1,e2,e3,e4,e5,e6,e7,e8⟩:=ch8t hW hy.1
  exact ⟨⟨e1,e2,e3,e4,chS_t hW e5 hl,e6,e7,e8⟩,chS_t hW hy.2 hl⟩
 ·obtain ⟨e1,e2,e3,e4,e5,e6,e7,e8⟩:=ch8t hW hy.1
  have hk:Drs 18 y.2:=chS_t hW hy.2 hl
  refine dr_le (n:=22) (dr_mk (by rw [e3];exact ha) (by rw [e4];exact hw) ⟨?_,snoc_all hk.2 hx.2⟩) (by decide)
  have:=hk.1
  rw [szs_append,szs,szs]
  omega
 ·obtain ⟨e1,e2,e3,e4,e5,e6,e7,e8⟩:=ch8t hW hy.1
  show Cur y.1.2.2.2.2.2.1 y.1.2.2.2.2.2.2.1
  rw [e6,e7];exact hc
theorem l3_elp {Y:Type} {P:Y→Prop} (hP:Fin_ P) (F:Int×Int×List I_Term×List Int×Int×Int→Nat→(R:Type)→(Y→Option R)→Option R) (hF:∀y,Dr 1000 ⟨y.1,y.2.1,y.2.2.1⟩→Cur y.2.2.2.1 y.2.2.2.2.1→Dm (F y) P) {g:Nat→Nat} (hg:∀n,n≤g n) {x:I_Term} (hx:Dr 3 x) {p q a w i h:Int} {l k:List I_Term} {b:List Int} (hl:Drs 6 l) (hk:Drs 6 k) (ha:Sm a) (hw:Sm w) (hc:Cur b i):
  Dm (fun n R K=>relB (fun y:TupT ST es8×List I_Term×TupT ST es8=>ChT TT (Wx TT E_I_Term x) es8 (p,q,a,w,l,b,i,h) y.1∧ChS TT (Wx TT E_I_Term x) (.lst E_I_Term k) (.lst E_I_Term y.2.1)∧ChT TT (fun d=>d=.lst E_I_Term (y.2.1++[x])) es8 y.1 y.2.2) (fun y=>F (y.2.2.2.2.1,y.2.2.2.2.2.1,y.2.2.2.2.2.2.1,y.2.2.2.2.2.2.2.1,y.2.2.2.2.2.2.2.2.1,y.2.2.2.2.2.2.2.2.2) (g n) R K)) P:=by
 have hW:=wt_x (m:=2) hx
 have hx1:=hx.1
 have key:∀y:TupT ST es8×List I_Term×TupT ST es8,(ChT TT (Wx TT E_I_Term x) es8 (p,q,a,w,l,b,i,h) y.1∧ChS TT (Wx TT E_I_Term x) (.lst E_I_Term k) (.lst E_I_Term y.2.1)∧ChT TT (fun d=>d=.lst E_I_Term (y.2.1++[x])) es8 y.1 y.2.2)→
   (y.1.1=p∧y.1.2.1=q∧y.1.2.2.1=a∧y.1.2.2.2.1=w∧Drs 18 y.1.2.2.2.2.1∧y.1.2.2.2.2.2.1=b∧y.1.2.2.2.2.2.2.1=i∧y.1.2.2.2.2.2.2.2=h)∧Drs 18 y.2.1∧
   (y.2.2.1=p∧y.2.2.2.1=q∧y.2.2.2.2.1=a∧y.2.2.2.2.2.1=w∧Drs 396 y.2.2.2.2.2.2.1∧y.2.2.2.2.2.2.2.1=b∧y.2.2.2.2.2.2.2.2.1=i∧y.2.2.2.2.2.2.2.2.2=h):=by
  rintro y ⟨h1,h2,h3⟩
  obtain ⟨e1,e2,e3,e4,e5,e6,e7,e8⟩:=ch8t hW h1
  have k1:Drs 18 y.1.2.2.2.2.1:=chS_t hW e5 hl
  have k2:Drs 18 y.2.1:=chS_t hW h2 hk
  have hW2:=wt_lst (m:=21) (L:=y.2.1++[x]) ⟨by have:=k2.1;rw [szs_append,szs,szs];omega,snoc_all k2.2 hx.2⟩
  obtain ⟨f1,f2,f3,f4,f5,f6,f7,f8⟩:=ch8t hW2 h3
  have k3:Drs 396 y.2.2.2.2.2.2.1:=chS_t hW2 f5 k1
  exact ⟨⟨e1,e2,e3,e4,k1,e6,e7,e8⟩,k2,f1.trans e1,f2.trans e2,f3.trans e3,f4.trans e4,k3,f6.trans e6,f7.trans e7,f8.trans e8⟩
 refine eq_relB hP ((Fin_.prod (fin_t8 (n:=18) (p,q,a,w,l,b,i,h)) (Fin_.prod (fin_Drs 18) (fin_t8 (n:=396) (p,q,a,w,l,b,i,h)))).mono fun y hy=>key y hy) ⟨((p,q,a,w,l,b,i,h),k,(p,q,a,w,l,b,i,h)),CL.refl (allD_cells _ _),.inl rfl,CL.refl (allD_cells _ _)⟩ fun y hy=>Dm.shift hg (hF _ ?_ ?_)
 ·obtain ⟨_,_,f1,f2,f3,f4,k3,_⟩:=key y hy
  exact dr_le (n:=397) (dr_mk (by rw [f3];exact ha) (by rw [f4];exact hw) k3) (by decide)
 ·obtain ⟨_,_,f1,f2,f3,f4,k3,f6,f7,f8⟩:=key y hy
  show Cur y.2.2.2.2.2.2.2.1 y.2.2.2.2.2.2.2.2.1
  rw [f6,f7];exact hc
theorem l3Draw1_dm {Y:Type} {P:Y→Prop} (hP:Fin_ P) (F:Int×Int×List I_Term×List Int×Int×Int→Nat→(R:Type)→(Y→Option R)→Option R) (hF:∀y,Dr 1000 ⟨y.1,y.2.1,y.2.2.1⟩→Cur y.2.2.2.1 y.2.2.2.2.1→Dm (F y) P) (d:Nat):∀(j:Nat) (g:Nat→Nat),(∀n,n≤g n)→∀(x4:List I_Term) (i4:Int) (a w i h:Int) (l:List I_Term) (b:List Int),j+d=3→0≤i4→i4<(x4.length:Int)→(∀x∈x4,Dr 7 x)→Drs 6 l→Sm a→Sm w→Cur b i→Dm (fun n R K=>fQ11.l1 (R:=R) (fun y=>F y (g n) R K) n x4 i4 j 0 0 a w l b i h) P:=by
 induction d with
 | zero=>
  intro j g hg x4 i4 a w i h l b hj h0 h1 hx4 hl ha hw hc
  have hx:=hx4 _ (rdTerm_mem h0 h1)
  have hk:=dr_kids (n:=6) hx
  have me:=dr_le (n:=7) (dr_mk (a:=a) (v:=w) ha hw hl) (by decide:7≤1000)
  refine Dm.step (fun k R K=>by rw [fQ11.l1]) ?_
  have hg1:∀n,n≤g (n+1):=fun n=>Nat.le_trans (Nat.le_succ n) (hg (n+1))
  have hkl:=szs_len (rd_I_Term x4 i4).f2
  have hk1:=hk.1
  refine Dm.itef (by omega) ?_
  refine Dm.bind (spec_l1Below_v2_wp 12 _ hc) fun t ht=>Dm.ite (fun _=>Dm.bind (spec_l1PickInt_v2_wp _ (by simp) _ ht.2) fun u hu=>l3_int hP F hF hg1 (by have:=hu.1;simp only [List.mem_cons,List.not_mem_nil,or_false] at this;exact ⟨by omega,by omega⟩) hl ha hw hu.2) fun _=>Dm.ite (fun _=>Dm.bind (spec_l1PickInt_v2_wp _ (by simp) _ ht.2) fun u hu=>l3_int hP F hF hg1 (by have:=hu.1;simp only [List.mem_cons,List.not_mem_nil,or_false] at this;exact ⟨by omega,by omega⟩) hl ha hw hu.2) fun _=>Dm.ite (fun _=>Dm.bind (spec_l3DrawDeep_v2_wp 2 1 (by decide) _ ht.2) fun u hu=>Dm.itet (by omega) (l3_elp hP F hF hg1 (raw_dr (by decide) hu.1 (by decide)) hl hk ha hw hu.2)) fun _=>Dm.ite (fun _=>Dm.bind (spec_l3DrawDeep_v2_wp 3 3 (by decide) _ ht.2) fun u hu=>Dm.shift hg1 (hF _ (raw_dr (by decide) hu.1 (by decide)) hu.2)) fun _=>Dm.shift hg1 (hF _ me ht.2)
 | succ d ih=>
  intro j g hg x4 i4 a w i h l b hj h0 h1 hx4 hl ha hw hc
  have hx:=hx4 _ (rdTerm_mem h0 h1)
  have hk:=dr_kids (n:=6) hx
  have me:=dr_le (n:=7) (dr_mk (a:=a) (v:=w) ha hw hl) (by decide:7≤1000)
  refine Dm.step (fun k R K=>by rw [fQ11.l1]) ?_
  have hg1:∀n,n≤g (n+1):=fun n=>Nat.le_trans (Nat.le_succ n) (hg (n+1))
  have hkl:=szs_len (rd_I_Term x4 i4).f2
  have hk1:=hk.1
  have w1:wrap64 ((j:Int)+1)=((j+1:Nat):Int):=wrS2 (m:=j) (n:=1) (by omega)
  rw [w1]
  refine Dm.itet (by omega) (Dm.ite (fun hp=>Dm.bind (spec_l1Once_v2_wp 2 _ hc) fun s hs=>Dm.ite (fun _=>?_) (fun _=>Dm.bind (spec_l1Below_v2_wp _ _ hs) fun s2 hs2=>Dm.itet hs2.1.1 (Dm.itet (by have:=hs2.1.2;omega) (ih (j+1) (fun n=>g (n+1)) hg1 _ _ _ _ _ _ _ _ (by omega) hs2.1.1 (by have:=hs2.1.2;omega) (fun x hx=>⟨by have:=szs_mem hx;omega,hk.2 x hx⟩) hl ha hw hs2.2)))) (fun _=>?_))
  ·refine Dm.bind (spec_l1Below_v2_wp 12 _ hs) fun t ht=>Dm.ite (fun _=>Dm.bind (spec_l1PickInt_v2_wp _ (by simp) _ ht.2) fun u hu=>l3_int hP F hF hg1 (by have:=hu.1;simp only [List.mem_cons,List.not_mem_nil,or_false] at this;exact ⟨by omega,by omega⟩) hl ha hw hu.2) fun _=>Dm.ite (fun _=>Dm.bind (spec_l1PickInt_v2_wp _ (by simp) _ ht.2) fun u hu=>l3_int hP F hF hg1 (by have:=hu.1;simp only [List.mem_cons,List.not_mem_nil,or_false] at this;exact ⟨by omega,by omega⟩) hl ha hw hu.2) fun _=>Dm.ite (fun _=>Dm.bind (spec_l3DrawDeep_v2_wp 2 1 (by decide) _ ht.2) fun u hu=>Dm.itet (by omega) (l3_elp hP F hF hg1 (raw_dr (by decide) hu.1 (by decide)) hl hk ha hw hu.2)) fun _=>Dm.ite (fun _=>Dm.bind (spec_l3DrawDeep_v2_wp 3 3 (by decide) _ ht.2) fun u hu=>Dm.shift hg1 (hF _ (raw_dr (by decide) hu.1 (by decide)) hu.2)) fun _=>Dm.shift hg1 (hF _ me ht.2)
  ·refine Dm.bind (spec_l1Below_v2_wp 12 _ hc) fun t ht=>Dm.ite (fun _=>Dm.bind (spec_l1PickInt_v2_wp _ (by simp) _ ht.2) fun u hu=>l3_int hP F hF hg1 (by have:=hu.1;simp only [List.mem_cons,List.not_mem_nil,or_false] at this;exact ⟨by omega,by omega⟩) hl ha hw hu.2) fun _=>Dm.ite (fun _=>Dm.bind (spec_l1PickInt_v2_wp _ (by simp) _ ht.2) fun u hu=>l3_int hP F hF hg1 (by have:=hu.1;simp only [List.mem_cons,List.not_mem_nil,or_false] at this;exact ⟨by omega,by omega⟩) hl ha hw hu.2) fun _=>Dm.ite (fun _=>Dm.bind (spec_l3DrawDeep_v2_wp 2 1 (by decide) _ ht.2) fun u hu=>Dm.itet (by omega) (l3_elp hP F hF hg1 (raw_dr (by decide) hu.1 (by decide)) hl hk ha hw hu.2)) fun _=>Dm.ite (fun _=>Dm.bind (spec_l3DrawDeep_v2_wp 3 3 (by decide) _ ht.2) fun u hu=>Dm.shift hg1 (hF _ (raw_dr (by decide) hu.1 (by decide)) hu.2)) fun _=>Dm.shift hg1 (hF _ me ht.2)
theorem l3Draw0_dm {Y:Type} {P:Y→Prop} (hP:Fin_ P) (F:Int×Int×List I_Term×List Int×Int×Int→Nat→(R:Type)→(Y→Option R)→Option R) (hF:∀y,Dr 1000 ⟨y.1,y.2.1,y.2.2.1⟩→Cur y.2.2.2.1 y.2.2.2.2.1→Dm (F y) P) {g:Nat→Nat} (hg:∀n,n≤g n) {a w i h:Int} {l:List I_Term} {b:List Int} (hl:Drs 6 l) (ha:Sm a) (hw:Sm w) (hc:Cur b i):Dm (fun n R K=>fQ11.l0 (R:=R) (fun y=>F y (g n) R K) n 0 0 0 a w l b i h) P:=by
 have me:=dr_le (n:=7) (dr_mk (a:=a) (v:=w) ha hw hl) (by decide:7≤1000)
 refine Dm.step (fun k R K=>by rw [fQ11.l0]) ?_
 have hg1:∀n,n≤g (n+1):=fun n=>Nat.le_trans (Nat.le_succ n) (hg (n+1))
 have hkl:=szs_len l
 have hk1:=hl.1
 have w1:wrap64 ((0:Int)+1)=((1:Nat):Int):=wrap_id (by decide) (by decide)
 rw [w1]
 have sm:∀{t:Int×List Int×Int×Int} {L:List Int},(∀x∈L,Sm x)→t.1∈L→Sm t.1:=fun h k=>h _ k
 refine Dm.itet (by decide) (Dm.ite (fun hp=>Dm.bind (spec_l1Once_v2_wp 2 _ hc) fun s hs=>Dm.ite (fun _=>?_) (fun _=>Dm.bind (spec_l1Below_v2_wp _ _ hs) fun s2 hs2=>Dm.itet hs2.1.1 (Dm.itet (by have:=hs2.1.2;omega) (l3Draw1_dm hP F hF 2 1 (fun n=>g (n+1)) hg1 _ _ _ _ _ _ _ _ rfl hs2.1.1 (by have:=hs2.1.2;omega) (fun x hx=>⟨by have:=szs_mem hx;omega,hl.2 x hx⟩) hl ha hw hs2.2)))) (fun _=>?_))
 ·refine Dm.bind (spec_l1Below_v2_wp 12 _ hs) fun t ht=>Dm.ite (fun _=>Dm.bind (spec_l1PickInt_v2_wp _ (by simp) _ ht.2) fun u hu=>Dm.shift hg1 (hF _ (dr_le (n:=7) (dr_mk (by have:=hu.1;simp only [List.mem_cons,List.not_mem_nil,or_false] at this;exact ⟨by omega,by omega⟩) hw hl) (by decide)) hu.2)) fun _=>Dm.ite (fun _=>Dm.bind (spec_l1PickInt_v2_wp _ (by simp) _ ht.2) fun u hu=>Dm.shift hg1 (hF _ (dr_le (n:=7) (dr_mk ha (show Sm u.1 from by have:=hu.1;simp only [List.mem_cons,List.not_mem_nil,or_false] at this;exact ⟨by omega,by omega⟩) hl) (by decide)) hu.2)) fun _=>Dm.ite (fun _=>Dm.bind (spec_l3DrawDeep_v2_wp 2 1 (by decide) _ ht.2) fun u hu=>Dm.itet (by omega) (l3_box hP F hF hg1 (raw_dr (by decide) hu.1 (by decide)) hl ha hw hu.2)) fun _=>Dm.ite (fun _=>Dm.bind (spec_l3DrawDeep_v2_wp 3 3 (by decide) _ ht.2) fun u hu=>Dm.shift hg1 (hF _ (raw_dr (by decide) hu.1 (by decide)) hu.2)) fun _=>Dm.shift hg1 (hF _ me ht.2)
 ·refine Dm.bind (spec_l1Below_v2_wp 12 _ hc) fun t ht=>Dm.ite (fun _=>Dm.bind (spec_l1PickInt_v2_wp _ (by simp) _ ht.2) fun u hu=>Dm.shift hg1 (hF _ (dr_le (n:=7) (dr_mk (by have:=hu.1;simp only [List.mem_cons,List.not_mem_nil,or_false] at this;exact ⟨by omega,by omega⟩) hw hl) (by decide)) hu.2)) fun _=>Dm.ite (fun _=>Dm.bind (spec_l1PickInt_v2_wp _ (by simp) _ ht.2) fun u hu=>Dm.shift hg1 (hF _ (dr_le (n:=7) (dr_mk ha (show Sm u.1 from by have:=hu.1;simp only [List.mem_cons,List.not_mem_nil,or_false] at this;exact ⟨by omega,by omega⟩) hl) (by decide)) hu.2)) fun _=>Dm.ite (fun _=>Dm.bind (spec_l3DrawDeep_v2_wp 2 1 (by decide) _ ht.2) fun u hu=>Dm.itet (by omega) (l3_box hP F hF hg1 (raw_dr (by decide) hu.1 (by decide)) hl ha hw hu.2)) fun _=>Dm.ite (fun _=>Dm.bind (spec_l3DrawDeep_v2_wp 3 3 (by decide) _ ht.2) fun u hu=>Dm.shift hg1 (hF _ (raw_dr (by decide) hu.1 (by decide)) hu.2)) fun _=>Dm.shift hg1 (hF _ me ht.2)
theorem l3Draw_dm {Y:Type} {P:Y→Prop} (hP:Fin_ P) (F:Int×Int×List I_Term×List Int×Int×Int→Nat→(R:Type)→(Y→Option R)→Option R) (hF:∀y,Dr 1000 ⟨y.1,y.2.1,y.2.2.1⟩→Cur y.2.2.2.1 y.2.2.2.2.1→Dm (F y) P) {b:List Int} {i:Int} (h:Int) (hc:Cur b i):Dm (fun n R K=>fQ11.f n (R:=R) b i h (fun y=>F y n R K)) P:=by
 unfold fQ11.f
 refine Dm.bind (spec_l3DrawRight_v2_wp 3 h hc) fun t1 h1=>?_
 obtain ⟨⟨t,ht,e⟩,hc1⟩:=h1
 have h7:=sz_norm sig2 t
 have hr:=Raw.sz ht
 have hd:Dr 7 ⟨t1.1,t1.2.1,t1.2.2.1⟩:=by rw [e];exact ⟨by omega,lab_norm sig2 (lab_raw (by decide) ht)⟩
 exact l3Draw0_dm hP F hF (g:=fun n=>n) (fun n=>Nat.le_refl n) (dr_kids (n:=6) hd) (lab_f0 hd.2) (lab_f1 hd.2) hc1
theorem rdBind_mem {l:List I_Bind} {i:Int} (h0:0≤i) (h1:i<(l.length:Int)):rd_I_Bind l i∈l:=rdOf_mem (z:=zI_Bind) h0 h1
noncomputable def look:List I_Bind→Int→I_Term
 | [],v=>⟨-1,v,[]⟩
 | b::u,v=>if b.f0=v then b.f1 else look u v
mutual
noncomputable def put (u:List I_Bind):I_Term→I_Term
 | ⟨f,v,l⟩=>if f= -1∧l=[] then look u v else ⟨f,v,puts u l⟩
noncomputable def puts (u:List I_Bind):List I_Term→List I_Term
 | []=>[]
 | t::l=>put u t::puts u l
end
theorem puts_map (u:List I_Bind) (l:List I_Term):puts u l=l.map (put u):=by
 induction l with
 | nil=>rw [puts];rfl
 | cons a l ih=>rw [puts,ih];rfl
theorem put_eq (u:List I_Bind) (t:I_Term):put u t=if t.f0= -1∧t.f2=[] then look u t.f1 else ⟨t.f0,t.f1,t.f2.map (put u)⟩:=by cases t;rw [put,puts_map]
theorem look_or (u:List I_Bind) (v:Int):(∃b∈u,b.f0=v∧look u v=b.f1)∨((∀b∈u,b.f0≠v)∧look u v=⟨-1,v,[]⟩):=by
 induction u with
 | nil=>exact .inr ⟨(fun b hb=>nomatch hb),rfl⟩
 | cons b u ih=>
  rw [look]
  by_cases h:b.f0=v
  ·rw [if_pos h];exact .inl ⟨b,List.mem_cons_self,h,rfl⟩
  ·rw [if_neg h]
   rcases ih with ⟨c,h1,h2,h3⟩ | ⟨h1,h2⟩
   ·exact .inl ⟨c,List.mem_cons_of_mem _ h1,h2,h3⟩
   ·refine .inr ⟨fun c hc=>?_,h2⟩
    rcases List.mem_cons.1 hc with rfl | hc
    ·exact h
    ·exact h1 c hc
theorem look_skip (p:List I_Bind) {v:Int} (h:∀b∈p,b.f0≠v) (q:List I_Bind):look (p++q) v=look q v:=by
 induction p with
 | nil=>rfl
 | cons b p ih=>rw [List.cons_append,look,if_neg (h b List.mem_cons_self),ih fun c hc=>h c (List.mem_cons_of_mem _ hc)]
def Bd (M:Nat) (u:List I_Bind):Prop:=∀b∈u,sz b.f1≤M
theorem sz_look {M:Nat} {u:List I_Bind} (h:Bd M u) (v:Int):sz (look u v)≤M+1:=by
 rcases look_or u v with ⟨b,h1,_,h2⟩ | ⟨_,h2⟩
 ·rw [h2];have:=h b h1;omega
 ·rw [h2,sz,szs];omega
theorem sz_put {M:Nat} {u:List I_Bind} (h:Bd M u) (t:I_Term):sz (put u t)≤sz t*(M+1):=by
 induction t using tInd with
 | h t ih=>
  rw [put_eq]
  have h1:=sz_eq t
  have e:sz t*(M+1)=szs t.f2*(M+1)+(M+1):=by rw [h1,Nat.succ_mul]
  split
  ·have:=sz_look h t.f1
   omega
  ·have key:∀l:List I_Term,(∀x∈l,sz (put u x)≤sz x*(M+1))→szs (l.map (put u))≤szs l*(M+1):=by
    intro l
    induction l with
    | nil=>intro _;simp [szs]
    | cons a l ihl=>
     intro hl
     have h2:=ihl fun x hx=>hl x (List.mem_cons_of_mem _ hx)
     have h3:=hl a List.mem_cons_self
     rw [List.map_cons,szs,szs,Nat.add_mul]
     omega
   have:=key t.f2 ih
   rw [sz]
   omega
theorem impl_Look_ev {M:Nat} {u:List I_Bind} (hl:u.length≤1000000000) (h:Bd M u) (hM:M≤1000000000) (v:Int):Ev (fun k=>impl_Look.f k u v) ((look u v).f0,(look u v).f1,(look u v).f2):=by
 have hb:Wp (fun k=>fQ51.f k u v) (fun r=>(r.2.2.2=true∧∃b∈u,look u v=b.f1∧r.1=b.f1.f0∧r.2.1=b.f1.f1∧r.2.2.1=b.f1.f2)∨(r.2.2.2=false∧look u v=⟨-1,v,[]⟩)):=by
  unfold fQ51.f
  refine Wp.each0 u zI_Bind hl (fun k i=>fQ51.l0 k v u u.length i 0 0) (fun p=>∀b∈p,b.f0≠v) ?_ ?_ (fun b hb=>nomatch hb)
  ·intro p x q e m hn hr hw hI ih
   refine Wp.step (fun k=>by rw [fQ51.l0]) ?_
   have r1:rd_I_Bind u (p.length:Int)=x:=hr
   rw [hw.e,r1]
   refine Wp.itet (by omega) (Wp.itet (Int.natCast_nonneg _) (Wp.itet (by omega) (Wp.ite (fun hx=>Wp.ret ?_) (fun hx=>ih (snoc_all hI hx)))))
   exact .inl ⟨rfl,x,m,by rw [e,look_skip p hI,look,if_pos hx],rfl,rfl,rfl⟩
  ·intro hI
   refine Wp.step (fun k=>by rw [fQ51.l0]) ?_
   refine Wp.itef (by omega) (Wp.ret (.inr ⟨rfl,?_⟩))
   have:=look_skip u hI []
   rw [List.append_nil] at this
   rw [this];rfl
 refine Wp.ev ?_
 unfold impl_Look.f
 refine Wp.bind hb fun r hr=>?_
 rcases hr with ⟨h1,b,hbm,h2,h3,h4,h5⟩ | ⟨h1,h2⟩
 ·have hc:=impl_copyTerm_ev b.f1 (by have:=h b hbm;omega)
  rw [←h3,←h4,←h5] at hc
  refine Wp.itet h1 (Wp.bindE hc (Wp.ret ?_))
  rw [h2,h3,h4,h5]
 ·refine Wp.itef (by rw [h1];decide) (Wp.bindE (v:=(-1,v,[])) Ev.ret (Wp.ret ?_))
  rw [h2]
theorem impl_filled_ev {M:Nat} {u:List I_Bind} (hl:u.length≤1000000000) (h:Bd M u) (hM:M≤1000000000) (t:I_Term):sz t≤1000000→Ev (fun k=>fQ38.f k u t.f0 t.f1 t.f2) ((put u t).f0,(put u t).f1,(put u t).f2):=by
 induction t using tInd with
 | h t ih=>
 intro ht
 have hlen:=sz_kids t
 refine Wp.ev ?_
 refine Wp.step (fun k=>by rw [fQ38.f]) ?_
 have loop:¬(t.f0= -1∧t.f2=[])→Wp (fun k=>fQ38.l0 k u ([]:List I_Term) t.f2 t.f2.length 0 t.f0 t.f1 t.f2 0 0) (fun r=>r=((put u t).f0,(put u t).f1,(put u t).f2)):=by
  intro hn
  refine Wp.each1 t.f2 zI_Term (by omega) (fun k i o=>fQ38.l0 k u o t.f2 t.f2.length i t.f0 t.f1 t.f2 0 0) (fun p o=>o=p.map (put u)) ?_ ?_ [] rfl
  ·intro p x q o e m hn hr hw hI jh
   refine Wp.step (fun k=>by rw [fQ38.l0]) ?_
   have r1:rd_I_Term t.f2 (p.length:Int)=x:=hr
   have hol:o.length=p.length:=by rw [hI,List.length_map]
   rw [hw.e,r1]
   refine Wp.itet (by omega) (Wp.itet (Int.natCast_nonneg _) (Wp.itet (by omega) (Wp.bindE (ih x m (by have:=sz_kid m;omega)) (Wp.itet (by simp only [List.length_cons,List.length_nil];omega) (jh _ ?_)))))
   rw [List.map_append,hI,tEta];rfl
  ·intro o hI
   refine Wp.step (fun k=>by rw [fQ38.l0]) ?_
   refine Wp.itef (by omega) (Wp.ret ?_)
   rw [put_eq,if_neg hn,hI]
 refine Wp.bindE (impl_isVar_ev _ _ _) (Wp.iteB (fun hv=>Wp.ite (fun h0=>?_) (fun h0=>loop ?_)) (fun hv=>loop fun hc=>hv hc.1))
 ·refine Wp.bindE (impl_Look_ev hl h hM t.f1) (Wp.ret ?_)
  rw [put_eq,if_pos ⟨hv,List.length_eq_zero_iff.1 (by omega)⟩]
 ·rintro ⟨_,hc⟩;rw [hc] at h0;exact h0 rfl
theorem impl_Apply_ev (s:List I_Sym) (hs:Names s) {u:List I_Bind} (hl:u.length≤1000000000) (h:Bd 1000 u) (t:I_Term) (ht:sz t≤1000):Ev (fun k=>fQ72.f k s u t.f0 t.f1 t.f2) ((norm s (put u t)).f0,(norm s (put u t)).f1,(norm s (put u t)).f2):=by
 unfold fQ72.f
 have h1:=sz_put h t
 have h2:sz t*(1000+1)≤1000*(1000+1):=Nat.mul_le_mul_right _ ht
 exact Wp.ev (Wp.bindE (impl_filled_ev hl h (by decide) t (by omega)) (Wp.bindE (impl_Norm_ev s hs (put u t) (by omega)) (Wp.ret rfl)))
theorem impl_Count_wp (t:I_Term) (v:Int) (ht:sz t≤1000000000):Wp (fun k=>fQ74.f k t.f0 t.f1 t.f2 v) (fun _=>True):=by
 have key:∀t:I_Term,sz t≤1000000000→∀a b:Int,Wp (fun k=>fQ13.f k t.f0 t.f1 t.f2 a b) (fun _=>True):=by
  intro t
  induction t using tInd with
  | h t ih=>
  intro h a b
  have hlen:=sz_kids t
  refine Wp.step (fun k=>by rw [fQ13.f]) ?_
  have h1:Wp (fun _=>fQ36.f t.f0 t.f1 t.f2 a b) (fun _=>True):=by
   unfold fQ36.f
   exact Wp.bindE (impl_isVar_ev _ _ _) (Wp.ite (fun _=>Wp.ite (fun _=>Wp.ret trivial) (fun _=>Wp.ret trivial)) (fun _=>Wp.ret trivial))
  refine Wp.bind h1 fun r _=>?_
  refine Wp.each2 t.f2 zI_Term (by omega) (fun k i a b=>fQ13.l0 k t.f2 t.f2.length i a b) (fun _ _ _=>True) ?_ ?_ _ _ trivial
  ·intro p x q a b e m hn hr hw hI jh
   refine Wp.step (fun k=>by rw [fQ13.l0]) ?_
   have r1:rd_I_Term t.f2 (p.length:Int)=x:=hr
   rw [hw.e,r1]
   exact Wp.itet (by omega) (Wp.itet (Int.natCast_nonneg _) (Wp.itet (by omega) (Wp.bind (ih x m (by have:=sz_kid m;omega) a b) fun r _=>jh _ _ trivial)))
  ·intro a b hI
   refine Wp.step (fun k=>by rw [fQ13.l0]) ?_
   exact Wp.itef (by omega) (Wp.ret trivial)
 unfold fQ74.f
 exact Wp.bind (key t ht v 0) fun r _=>Wp.ret trivial
theorem impl_SubContains_wp {u:List I_Bind} (hl:u.length≤1000000000) (v:Int) (t:I_Term) (ht:sz t≤1000000000):Wp (fun k=>fQ8.f k u v t.f0 t.f1 t.f2) (fun _=>True):=by
 have hi:Wp (fun k=>fQ4.f k u v t.f0 t.f1 t.f2) (fun _=>True):=by
  unfold fQ4.f
  refine Wp.each0 u zI_Bind hl (fun k i=>fQ4.l0 k u u.length i v t.f0 t.f1 t.f2) (fun _=>True) ?_ ?_ trivial
  ·intro p x q e m hn hr hw hI ih
   refine Wp.step (fun k=>by rw [fQ4.l0]) ?_
   rw [hw.e]
   have h1:∀a:I_Bind,Wp (fun k=>fQ45.f k a.f0 a.f1.f0 a.f1.f1 a.f1.f2 v t.f0 t.f1 t.f2) (fun r=>r.2=(v,t.f0,t.f1,t.f2)):=by
    intro a
    unfold fQ45.f
    exact Wp.bind (impl_Count_wp t a.f0 ht) fun r _=>Wp.ret rfl
   refine Wp.itet (by omega) (Wp.itet (Int.natCast_nonneg _) (Wp.itet (by omega) (Wp.bind (h1 _) fun r hr2=>?_)))
   rw [hr2]
   exact Wp.ite (fun _=>Wp.ret trivial) (fun _=>ih trivial)
  ·intro _
   refine Wp.step (fun k=>by rw [fQ4.l0]) ?_
   exact Wp.itef (by omega) (Wp.ret trivial)
 unfold fQ8.f
 exact Wp.bind hi fun r _=>Wp.ret trivial
def SubFit (s:List I_Sym) (u:List I_Bind):Prop:=(∀b∈u,(0≤b.f0∧b.f0≤99)∧TermOk s b.f1)∧u.Pairwise (fun a b=>a.f0<b.f0)
theorem impl_SubOk_wp (s:List I_Sym) (hs:Names s) {u:List I_Bind} (hl:u.length≤1000000000) (h:Bd 1000 u):Wp (fun k=>fQ46.f k s u) (fun r=>r=true→SubFit s u):=by
 unfold fQ46.f
 refine Wp.each0 u zI_Bind hl (fun k i=>fQ46.l0 k s u u u.length i) (fun p=>SubFit s p∧∀b∈p,b.f0≤(rd_I_Bind u ((p.length:Int) - 1)).f0) ?_ ?_ ⟨⟨(fun b hb=>nomatch hb),List.Pairwise.nil⟩,fun b hb=>nomatch hb⟩
 ·intro p x q e m hn hr hw hI ih
  refine Wp.step (fun k=>by rw [fQ46.l0]) ?_
  have r1:rd_I_Bind u (p.length:Int)=x:=hr
  have hx:=h x m
  have bad:∀{C:Prop},(false=true)→C:=fun h=>by cases h
  have fin:(0≤x.f0∧x.f0≤99)→(∀b∈p,b.f0<x.f0)→Wp (fun k=>(fQ47.f k s x.f1.f0 x.f1.f1 x.f1.f2).bind fun t=>if t=true then ((fQ8.f k u x.f0 x.f1.f0 x.f1.f1 x.f1.f2).bind fun t3=>if t3.1=true then some false else fQ46.l0 k s u u u.length ((p.length:Int)+1)) else some false) (fun r=>r=true→SubFit s u):=by
   intro h0 hp
   refine Wp.bindE (impl_TermOk_ev s hs x.f1 (by omega)) (Wp.iteB (fun ht=>Wp.bind (impl_SubContains_wp hl x.f0 x.f1 (by omega)) fun r _=>Wp.ite (fun _=>Wp.ret bad) (fun _=>ih ⟨⟨snoc_all hI.1.1 ⟨h0,ht⟩,?_⟩,?_⟩)) (fun _=>Wp.ret bad))
   ·refine List.pairwise_append.2 ⟨hI.1.2,List.pairwise_singleton _ _,fun a ha b hb=>?_⟩
    rw [List.mem_singleton.1 hb];exact hp a ha
   ·have e1:(((p++[x]).length:Nat):Int) - 1=(p.length:Int):=by simp
    rw [e1,r1]
    exact snoc_all (fun b hb=>Int.le_of_lt (hp b hb)) (Int.le_refl _)
  rw [hw.e,r1]
  refine Wp.itet (by omega) (Wp.itet (Int.natCast_nonneg _) (Wp.itet (by omega) (Wp.bindE (impl_from_ev _ _ _) (Wp.iteB (fun h0=>Wp.ite (fun hpos=>?_) (fun hz=>fin h0 ?_)) (fun _=>Wp.ret bad)))))
  ·have e1:wrap64 ((p.length:Int) - 1)=(p.length:Int) - 1:=wrap_id (by omega) (by omega)
   rw [e1]
   refine Wp.itet (by omega) (Wp.itet (by omega) (Wp.ite (fun _=>Wp.ret bad) (fun hlt=>fin h0 fun b hb=>?_)))
   have:=hI.2 b hb
   omega
  ·have:p=[]:=List.length_eq_zero_iff.1 (by omega)
   rw [this];exact fun b hb=>nomatch hb
 ·intro hI
  refine Wp.step (fun k=>by rw [fQ46.l0]) ?_
  exact Wp.itef (by omega) (Wp.ret fun _=>hI.1)
def UB (u:List I_Bind):Prop:=u.length≤4∧∀b∈u,Sm b.f0∧Dr 1000 b.f1
theorem fin_UB:Fin_ UB:=Fin_.list (Fin_.mono (fin_map (Fin_.prod fin_Sm (fin_Dr 1000)) (fun p=>(⟨p.1,p.2⟩:I_Bind))) fun b h=>⟨(b.f0,b.f1),h,rfl⟩) 4
theorem ub_bd {u:List I_Bind} (h:UB u):Bd 1000 u:=fun b hb=>(h.2 b hb).2.1
theorem spec_l6DrawRight_v2_wp {b:List Int} {i:Int} (h:Int) (hc:Cur b i):Wp (fun k=>fQ18.f k b i h) (fun r=>Cur r.1 r.2.1∧r.2.2.2.length≤3∧∀x∈r.2.2.2,Sm x.f0∧Dr 1000 x.f1):=by
 have loop:∀(d m:Nat),m+d=3→∀(o:List I_Bind) {b:List Int} {i:Int} (h:Int),Cur b i→o.length≤m→(∀x∈o,Sm x.f0∧Dr 1000 x.f1)→Wp (fun k=>fQ18.l0 k o m b i h) (fun r=>Cur r.1 r.2.1∧r.2.2.2.length≤3∧∀x∈r.2.2.2,Sm x.f0∧Dr 1000 x.f1):=by
  intro d
  induction d with
  | zero=>
   intro m hm o b i h hc ho hx
   refine Wp.step (fun k=>by rw [fQ18.l0]) ?_
   exact Wp.itef (by omega) (Wp.ret ⟨hc,by show o.length≤3;omega,hx⟩)
  | succ d ih=>
   intro m hm o b i h hc ho hx
   have e1:wrap64 ((m:Int)+1)=((m+1:Nat):Int):=by rw [wrap_id (by omega) (by omega)];omega
   have sm:Sm (m:Int):=⟨by omega,by omega⟩
   refine Wp.step (fun k=>by rw [fQ18.l0]) ?_
   rw [e1]
   refine Wp.itet (by omega) (Wp.bind (spec_l1Once_v2_wp 3 h hc) fun r hr=>Wp.ite (fun _=>ih (m+1) (by omega) o _ hr (by omega) hx) (fun _=>Wp.bind (spec_l3DrawRight_v2_wp 0 _ hr) fun y hy=>?_))
   obtain ⟨⟨t,ht,e⟩,hcy⟩:=hy
   have h7:=sz_norm sig2 t
   have hr7:=Raw.sz ht
   have hd:Dr 7 ⟨y.1,y.2.1,y.2.2.1⟩:=by rw [e];exact ⟨by omega,lab_norm sig2 (lab_raw (by decide) ht)⟩
   refine Wp.bind (spec_l1Once_v2_wp 3 _ hcy) fun z hz=>Wp.ite (fun _=>?_) (fun _=>Wp.itet (by simp only [List.length_cons,List.length_nil];omega) (ih (m+1) (by omega) _ _ hz (by rw [List.length_append];simp;omega) (snoc_all hx ⟨sm,dr_le hd (by decide)⟩)))
   refine Wp.bindE spec_l2Sig_ev (Wp.bind (spec_l1Below_v2_wp 2 _ hz) fun q hq=>Wp.bindE (v:=(-1,wrap64 (5+q.1),[])) Ev.ret (Wp.bindE (v:=(5,0,[⟨-1,wrap64 (5+q.1),[]⟩,⟨y.1,y.2.1,y.2.2.1⟩])) Ev.ret ?_))
   have hq1:=hq.1
   have w5:wrap64 (5+q.1)=5+q.1:=wrap_id (by omega) (by omega)
   have hd2:Dr 9 ⟨5,0,[⟨-1,wrap64 (5+q.1),[]⟩,⟨y.1,y.2.1,y.2.2.1⟩]⟩:=by
    refine dr_mk ⟨by decide,by decide⟩ ⟨by decide,by decide⟩ ⟨?_,?_⟩
    ·have:=hd.1;simp only [szs];rw [sz,szs];omega
    ·intro x hx
     rcases List.mem_cons.1 hx with rfl | hx
     ·exact .mk _ ⟨by show -100≤(-1:Int);decide,by show (-1:Int)≤100;decide⟩ (by rw [w5];exact ⟨by show -100≤5+q.1;omega,by show 5+q.1≤100;omega⟩) (fun x hx=>nomatch hx)
     ·rw [List.mem_singleton.1 hx];exact hd.2
   have hn:=spec_Norm_ev sig2 sig2_names ⟨5,0,[⟨-1,wrap64 (5+q.1),[]⟩,⟨y.1,y.2.1,y.2.2.1⟩]⟩ (by have:=hd2.1;omega)
   refine Wp.bindE hn (Wp.itet (by simp only [List.length_cons,List.length_nil];omega) (ih (m+1) (by omega) _ _ hq.2 (by rw [List.length_append];simp;omega) (snoc_all hx ⟨sm,?_⟩)))
   show Dr 1000 (norm sig2 ⟨5,0,[⟨-1,wrap64 (5+q.1),[]⟩,⟨y.1,y.2.1,y.2.2.1⟩]⟩)
   exact ⟨Nat.le_trans (sz_norm sig2 _) (Nat.le_trans hd2.1 (by decide)),lab_norm sig2 hd2.2⟩
 unfold fQ18.f
 exact loop 3 0 rfl [] h hc (Nat.le_refl _) (fun x hx=>nomatch hx)
theorem l6Draw_dm {Y:Type} {P:Y→Prop} (hP:Fin_ P) {b:List Int} {i:Int} (h:Int) (hc:Cur b i) (F:List I_Bind×List Int×Int×Int→Nat→(R:Type)→(Y→Option R)→Option R)
  (hF:∀y,UB y.1→Cur y.2.1 y.2.2.1→Dm (F y) P):Dm (fun n R K=>fQ40.f n (R:=R) b i h (fun y=>F y n R K)) P:=by
 unfold fQ40.f
 refine Dm.bind (spec_l6DrawRight_v2_wp h hc) fun t1 h1=>Dm.bind (spec_l1Below_v2_wp 8 _ h1.1) fun t2 h2=>?_
 obtain ⟨_,hl,hu⟩:=h1
 have ub:UB t1.2.2.2:=⟨by omega,hu⟩
 refine Dm.ite (fun _=>Dm.bind (spec_l1PickInt_v2_wp _ (by simp) _ h2.2) fun t3 h3=>?_) (fun _=>Dm.ite (fun _=>Dm.ite (fun hp=>?_) (fun _=>hF _ ub h2.2)) (fun _=>hF _ ub h2.2))
 ·have s3:Sm t3.1:=by have:=h3.1;simp only [List.mem_cons,List.not_mem_nil,or_false] at this;exact ⟨by omega,by omega⟩
  refine l3Draw_dm hP _ (fun y hd hcy=>?_) _ h3.2
  exact Dm.itet (by simp only [List.length_cons,List.length_nil];omega) (hF _ ⟨by show (t1.2.2.2++[_]).length≤4;rw [List.length_append];simp;omega,snoc_all hu ⟨s3,hd⟩⟩ hcy)
 ·refine l3Draw_dm hP _ (fun y hd hcy=>?_) _ h2.2
  refine Dm.itet hp (hF _ ⟨by show (List.set _ _ _).length≤4;rw [List.length_set];omega,fun x hx=>?_⟩ hcy)
  rcases List.mem_or_eq_of_mem_set hx with h | h
  ·exact hu x h
  ·rw [h]
   exact ⟨(hu _ (rdBind_mem (Int.le_refl 0) (by omega))).1,hd⟩
def PA (y:List I_Sym×List I_Bind×Int×Int×List I_Term):Prop:=y.1=sig2∧UB y.2.1∧Dr 1000 ⟨y.2.2.1,y.2.2.2.1,y.2.2.2.2⟩
theorem fin_PA:Fin_ PA:=by
 refine Fin_.mono (fin_map (Fin_.prod (Fin_.one sig2) (Fin_.prod fin_UB (fin_Dr 1000))) (fun p=>(p.1,p.2.1,p.2.2.f0,p.2.2.f1,p.2.2.f2))) fun y h=>⟨(y.1,y.2.1,⟨y.2.2.1,y.2.2.2.1,y.2.2.2.2⟩),h,rfl⟩
theorem drawApply_dm (x:List Int) (hx:x.length≤1048576):Dm (fun n R K=>fQ37.f n (R:=R) x K) PA:=by
 unfold fQ37.f
 refine Dm.bind (spec_l1New_v2_wp x hx) fun t1 h1=>?_
 refine l6Draw_dm fin_PA _ h1 _ (fun y hy hc=>?_)
 refine Dm.bindE spec_l2Sig_ev ?_
 exact l3Draw_dm fin_PA _ (fun t4 hd _=>Dm.ret fin_PA ⟨rfl,hy,hd⟩) _ hc
theorem form_norm {s:List I_Sym} (t:I_Term):FormOk s t→FormOk s (norm s t):=by
 induction t using tInd with
 | h t ih=>
  intro h
  have hk:=fun x hx=>ih x hx (h.kid x hx)
  obtain ⟨f,v,l⟩:=t
  rcases h.row with ⟨r0,r1,r2⟩ | ⟨r0,r1,r2,r3,r4,_⟩
  ·have e0:f= -1:=r0
   have e2:l=[]:=List.length_eq_zero_iff.1 r2
   subst e0 e2
   exact form_var s v r1
  ·have e2:v=0:=r2
   subst e2
   cases hb:(rd_I_Sym s f).f2 with
   | false=>exact form_sym r1 hb l (r3 hb) hk
   | true=>exact form_blind ⟨r1.1,r1.2,hb⟩ l (r4 hb) hk
theorem mean_sym {s:List I_Sym} {z:Nat} {T:List (List Int)} (env:List Int) {f:Int} (h0:0≤f) (hb:(rd_I_Sym s f).f2=false) (l:List I_Term):mean s z T env (norm s ⟨f,0,l⟩)=rd (rd_Ls_i64 T f) (placeOf z (l.map fun x=>mean s z T env (norm s x))):=by
 have nb:¬Blind s f:=fun h=>by rw [h.2.2] at hb;exact absurd hb (by decide)
 have e:norm s ⟨f,0,l⟩=⟨f,0,l.map (norm s)⟩:=by rw [norm,normL_no nb];rfl
 rw [e,mean_eq,nodeV,if_neg (by show ¬f= -1;omega),if_neg (fun h=>nb (B_iff.1 h)),meanL_map,List.map_map]
 rfl
theorem mean_node {s:List I_Sym} {z:Nat} {T:List (List Int)} (env:List Int) {f:Int} (h0:0≤f) (v:Int) (l:List I_Term):mean s z T env ⟨f,v,l⟩=if B (Blind s f)=true then foldV z (rd_Ls_i64 T f) (l.map (mean s z T env)) else rd (rd_Ls_i64 T f) (placeOf z (l.map (mean s z T env))):=by
 rw [mean_eq,nodeV,if_neg (by show ¬f= -1;omega),meanL_map]
theorem map_eq' {α β:Type} {f g:α→β}:∀{l:List α},(∀x∈l,f x=g x)→l.map f=l.map g:=by
 intro l h;exact List.map_congr_left h
theorem mean_norm {s:List I_Sym} {z:Nat} {T:List (List Int)} (hw:WorldOk s z T) (env:List Int) (t:I_Term):FormOk s t→mean s z T env (norm s t)=mean s z T env t:=by
 induction t using tInd with
 | h t ih=>
  intro h
  have hk:=fun x hx=>ih x hx (h.kid x hx)
  obtain ⟨f,v,l⟩:=t
  rcases h.row with ⟨r0,r1,r2⟩ | ⟨r0,r1,r2,r3,r4,_⟩
  ·have e0:f= -1:=r0
   have e2:l=[]:=List.length_eq_zero_iff.1 r2
   subst e0 e2
   rw [norm,normL]
  ·have e2:v=0:=r2
   subst e2
   rw [mean_node env r1.1]
   cases hb:(rd_I_Sym s f).f2 with
   | false=>
    rw [mean_sym env r1.1 hb,if_neg (fun h=>by have:=(B_iff.1 h).2.2;rw [hb] at this;cases this),map_eq' hk]
   | true=>
    have hbl:Blind s f:=⟨r1.1,r1.2,hb⟩
    have r4:2≤l.length:=r4 hb
    rw [mean_blind hw env hbl l (by rintro rfl;simp at r4) (fun x hx=>form_norm x (h.kid x hx)),if_pos (B_iff.2 hbl),map_eq' hk]
theorem put_both {s:List I_Sym} {z:Nat} {T:List (List Int)} (hw:WorldOk s z T) {u:List I_Bind} (hu:∀b∈u,FormOk s b.f1) (env next:List Int) (hn:∀v,0≤v→v≤99→mean s z T env (look u v)=varV z next v) (t:I_Term):FormOk s t→FormOk s (norm s (put u t))∧mean s z T env (norm s (put u t))=mean s z T next t:=by
 induction t using tInd with
 | h t ih=>
  intro h
  have hk:=fun x hx=>ih x hx (h.kid x hx)
  rw [put_eq]
  obtain ⟨f,v,l⟩:=t
  rcases h.row with ⟨r0,r1,r2⟩ | ⟨r0,r1,r2,r3,r4,_⟩
  ·have e0:f= -1:=r0
   have e2:l=[]:=List.length_eq_zero_iff.1 r2
   subst e0 e2
   rw [if_pos ⟨rfl,rfl⟩]
   have hf:FormOk s (look u v):=by
    rcases look_or u v with ⟨b,h1,_,h2⟩ | ⟨_,h2⟩
    ·rw [h2];exact hu b h1
    ·rw [h2];exact .mk _ (.inl ⟨rfl,r1,rfl⟩) (fun x hx=>nomatch hx)
   refine ⟨form_norm _ hf,?_⟩
   rw [mean_norm hw env _ hf]
   have:mean s z T next ⟨-1,v,[]⟩=varV z next v:=by rw [mean_eq,nodeV,if_pos rfl]
   rw [this]
   exact hn v r1.1 r1.2
  ·have e2:v=0:=r2
   have r0:f≠-1:=by have:=r1.1;have:0≤f:=this;omega
   subst e2
   rw [if_neg (fun hc=>r0 hc.1)]
   have hk1:∀x∈l.map (put u),FormOk s (norm s x):=by
    intro x hx
    obtain ⟨y,hy,rfl⟩:=List.mem_map.1 hx
    exact (hk y hy).1
   have hk2:(l.map (put u)).map (fun x=>mean s z T env (norm s x))=l.map (mean s z T next):=by
    rw [List.map_map]
    exact map_eq' fun x hx=>(hk x hx).2
   show FormOk s (norm s ⟨f,0,l.map (put u)⟩)∧mean s z T env (norm s ⟨f,0,l.map (put u)⟩)=mean s z T next ⟨f,0,l⟩
   rw [mean_node next r1.1]
   cases hb:(rd_I_Sym s f).f2 with
   | false=>
    refine ⟨form_sym r1 hb _ (by rw [List.length_map];exact r3 hb) hk1,?_⟩
    rw [mean_sym env r1.1 hb,if_neg (fun h=>by have:=(B_iff.1 h).2.2;rw [hb] at this;cases this),hk2]
   | true=>
    have hbl:Blind s f:=⟨r1.1,r1.2,hb⟩
    have r4:2≤l.length:=r4 hb
    refine ⟨form_blind hbl _ (by rw [List.length_map];exact r4) hk1,?_⟩
    rw [mean_blind hw env hbl _ (by intro e;have:=congrArg List.length e;rw [List.length_map] at this;simp at this;rw [this] at r4;simp at r4) hk1,if_pos (B_iff.2 hbl),hk2]
theorem rows_of {s:List I_Sym} {T:List (List Int)} (h:RawM s T) (ha:∀x∈s,0≤x.f1∧x.f1≤3∧(x.f2=true→x.f1=2)):Rows T:=by
 induction h with
 | nil=>intro x hx;cases hx
 | snoc hM ht ih=>
  rename_i p T x t
  refine snocAll (ih (fun y hy=>ha y (by simp [hy]))) ?_
  rw [ht.1]
  have:=ha x (by simp)
  have h3:x.f1.toNat≤3:=by omega
  have:=Nat.pow_le_pow_right (n:=2) (by omega) h3
  omega
theorem env100_wp (b:List Int):Wp (fun k=>laws_envOf.f k b) (fun r=>r.length=100):=by
 unfold laws_envOf.f
 refine Wp.cnt1 100 (by decide) (fun k i o=>laws_envOf.l0 k b o i) (fun i o=>o.length=i) ?_ ?_ [] rfl
 ·intro i o hi hw hI ih
  refine Wp.step (fun k=>by rw [laws_envOf.l0]) ?_
  rw [hw.e]
  exact Wp.itet (by omega) (Wp.bind (laws_at_wp b i) fun t _=>Wp.itet (by simp only [List.length_cons,List.length_nil];omega) (ih _ (by simp [hI])))
 ·intro o hI
  refine Wp.step (fun k=>by rw [laws_envOf.l0]) ?_
  exact Wp.itef (by decide) (Wp.ret (by omega))
theorem pw_ne {p:List I_Bind} {x:I_Bind} {q:List I_Bind} (h:(p++x::q).Pairwise (fun a b=>a.f0<b.f0)):∀b∈p,b.f0≠x.f0:=by
 intro b hb
 have:=(List.pairwise_append.1 h).2.2 b hb x (by simp)
 omega
theorem FnPutMeans (b:List Int) (w:(b.length≤maxLen∧∀y∈b,(Lit.int .u8 y).wf=true)):∃k,laws_FnPutMeans.f k b=some true:=by
 refine Wp.done ?_
 unfold laws_FnPutMeans.f
 refine Wp.bindE (v:=decide ((b.length:Int)>1048576)) Ev.ret (Wp.ite (fun _=>Wp.ret rfl) (fun hb=>?_))
 have hb':b.length≤1048576:=by rw [decide_eq_true_eq] at hb;omega
 refine Wp.rel (drawApply_dm b hb') fun y py=>?_
 obtain ⟨s,u,tf,tv,tl⟩:=y
 obtain ⟨h1,hu,hd⟩:=py
 have h1:s=sig2:=h1
 have hu:UB u:=hu
 have hd:Dr 1000 ⟨tf,tv,tl⟩:=hd
 subst h1
 refine Wp.bind (spec_DrawMeaning_wp b hb') fun r hr=>?_
 obtain ⟨s,T⟩:=r
 obtain ⟨h1,hM⟩:=hr
 have h1:s=sig2:=h1
 have hM:RawM sig2 T:=hM
 subst h1
 refine Wp.bind (env100_wp b) fun env henv=>?_
 have hs:=sig2_names
 have hul:u.length≤4:=hu.1
 have hbd:Bd 1000 u:=ub_bd hu
 have hts:sz (⟨tf,tv,tl⟩:I_Term)≤1000:=hd.1
 have hN1:=sz_norm sig2 (put u ⟨tf,tv,tl⟩)
 have hN2:=sz_put hbd ⟨tf,tv,tl⟩
 have hN3:sz (⟨tf,tv,tl⟩:I_Term)*(1000+1)≤1000*(1000+1):=Nat.mul_le_mul_right _ hts
 have hN:sz (norm sig2 (put u ⟨tf,tv,tl⟩))≤1000000000:=by omega
 have iN:=impl_TermOk_ev sig2 hs (norm sig2 (put u ⟨tf,tv,tl⟩)) hN
 have sN:=spec_TermOk_ev sig2 hs (norm sig2 (put u ⟨tf,tv,tl⟩)) hN
 have iT:=impl_TermOk_ev sig2 hs ⟨tf,tv,tl⟩ (by omega)
 have same:Wp (fun k=>(fQ47.f k sig2 (norm sig2 (put u ⟨tf,tv,tl⟩)).f0 (norm sig2 (put u ⟨tf,tv,tl⟩)).f1 (norm sig2 (put u ⟨tf,tv,tl⟩)).f2).bind fun t9=>(fQ58.f k sig2 (norm sig2 (put u ⟨tf,tv,tl⟩)).f0 (norm sig2 (put u ⟨tf,tv,tl⟩)).f1 (norm sig2 (put u ⟨tf,tv,tl⟩)).f2).bind fun t10=>some (decide (t9=t10))) (fun r=>r=true):=
  Wp.bindE iN (Wp.bindE sN (Wp.ret (decide_eq_true rfl)))
 have hT:Rows T:=rows_of hM sig2_ars
 refine Wp.bindE (impl_Apply_ev sig2 hs (u:=u) (Nat.le_trans hul (by decide)) hbd ⟨tf,tv,tl⟩ hts) (Wp.bind (impl_SubOk_wp sig2 hs (u:=u) (Nat.le_trans hul (by decide)) hbd) fun r6 h6=>Wp.ite (fun e6=>Wp.bindE iT (Wp.ite (fun hok=>Wp.bindE iN (Wp.ite (fun hok2=>Wp.bindE (impl_ModelOk_ev sig2 T hs hT) (Wp.ite (fun hmo=>?_) (fun _=>same))) (fun _=>same))) (fun _=>same))) (fun _=>same))
 obtain ⟨hfit,hpw⟩:=h6 e6
 have hw:WorldOk sig2 2 T:=B_iff.1 hmo
 have tok:TermOk sig2 ⟨tf,tv,tl⟩:=B_iff.1 hok
 have nok:=B_iff.1 hok2
 have vb:∀x∈u,Ev (fun k=>fQ53.f k sig2 T x.f1.f0 x.f1.f1 x.f1.f2 env) (mean sig2 2 T env x.f1):=fun x hx=>impl_Value_ev hs hT hw env (by omega) x.f1 (by have:=hbd x hx;omega) (hfit x hx).2
 refine Wp.itet (by simp only [List.length_nil];omega) ?_
 refine Wp.each1 u zI_Bind (by omega) (fun k i o=>laws_FnPutMeans.l0 k sig2 u env o i tf tv tl T (norm sig2 (put u ⟨tf,tv,tl⟩)).f0 (norm sig2 (put u ⟨tf,tv,tl⟩)).f1 (norm sig2 (put u ⟨tf,tv,tl⟩)).f2) (fun p o=>o.length=100∧(∀v,0≤v→v≤99→(∀b∈p,b.f0≠v)→rd o v=rd env v)∧∀b∈p,rd o b.f0=mean sig2 2 T env b.f1) ?_ ?_ _ ⟨henv,fun v _ _ _=>rfl,fun b hb=>nomatch hb⟩
 ·intro p x q o e m hn hr hw2 hI jh
  refine Wp.step (fun k=>by rw [laws_FnPutMeans.l0]) ?_
  have r1:rd_I_Bind u (p.length:Int)=x:=hr
  obtain ⟨h0,h99⟩:=(hfit x m).1
  obtain ⟨i1,i2,i3⟩:=hI
  rw [hw2.e,r1]
  refine Wp.itet (by omega) (Wp.itet (Int.natCast_nonneg _) (Wp.itet (by omega) (Wp.bindE (vb x m) (Wp.itet h0 (jh _ ⟨by rw [List.length_set];exact i1,fun v v0 v9 hv=>?_,?_⟩)))))
  ·have hx:x.f0≠v:=hv x (by simp)
   rw [rd_set_ne _ (by omega)]
   exact i2 v v0 v9 fun b hb=>hv b (by simp [hb])
  ·refine snoc_all (fun b hb=>?_) ?_
   ·have hne:=pw_ne (e▸hpw) b hb
    have hb0:=(hfit b (by rw [e];simp [hb])).1
    rw [rd_set_ne _ (by omega)]
    exact i3 b hb
   ·rw [rd_set_eq _ (by omega)]
 ·intro o hI
  refine Wp.step (fun k=>by rw [laws_FnPutMeans.l0]) ?_
  obtain ⟨i1,i2,i3⟩:=hI
  have key:∀v,0≤v→v≤99→mean sig2 2 T env (look u v)=varV 2 o v:=by
   intro v v0 v9
   rcases look_or u v with ⟨c,c1,c2,c3⟩ | ⟨c1,c2⟩
   ·have hm:=i3 c c1
    have hr:=mean_rng hw env c.f1 (hfit c c1).2.2.2
    have hr0:0≤mean sig2 2 T env c.f1:=hr.1
    have hr1:mean sig2 2 T env c.f1<2:=hr.2
    rw [c3,varV_two o v (by omega),←c2,hm]
    split
    ·omega
    ·omega
   ·rw [c2,mean_eq,nodeV,if_pos rfl]
    exact varV_agree (by omega) (i2 v v0 v9 c1).symm
  have both:=put_both hw (fun b hb=>(hfit b hb).2.2.2) env o key ⟨tf,tv,tl⟩ tok.2.2
  refine Wp.itef (by omega) (Wp.bindE (impl_Value_ev hs hT hw env (by omega) _ hN nok) (Wp.bindE (impl_Value_ev hs hT hw o (by omega) ⟨tf,tv,tl⟩ (by omega) tok) (Wp.ret (decide_eq_true both.2))))
end Go.Proofs.Ytejfjfhopapaaaa.Pure
