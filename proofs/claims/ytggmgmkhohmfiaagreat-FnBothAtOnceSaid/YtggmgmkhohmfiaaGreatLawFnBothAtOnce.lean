/- The law's row: printed by a program of this claim's session. -/
import Derived.Test.YtggmgmkhohmfiaaGreatRows
import Derived.Test.YtggmgmkhohmfiaaGreatGBothAtOnce1
import Derived.Test.YtggmgmkhohmfiaaGreatPureFnBothAtOnce
import Derived.WalkKit
import Derived.ProofKit
import Derived.OpenShut
import Derived.ShutString
import Derived.ChangeOld
import Derived.Below
import Derived.SizedLaws
namespace Go.Proofs.YtggmgmkhohmfiaaGreat.fnBothAtOnce
open Go.ChangeShapes Go.WideShapes Go.ChangeAt Go.RowKit Go.Proofs.YtggmgmkhohmfiaaGreat.PE
open Go.ChangeMaps (open_string shut_string)
set_option linter.unusedVariables false
theorem own:ownKnob Tryz.prog.godebug=none:=by kernel_rfl
theorem laidOut:laidOutB Tryz.prog=true:=by kernel_rfl
set_option maxRecDepth 100000 in
theorem lifted (os:Os) (started:os.Started) (H:Type) (enc:TypeId×Value→H):
  ReturnsInHanded {} Tryz.checked os 8 .any (Rows.fnBothAtOnceSpec.pre6 enc Tryz.prog Tryz.f8 Rows.fnBothAtOnceRow.domain false) (Rows.fnBothAtOnceSpec.post enc Tryz.prog Tryz.f8 false true false false):=by
 refine returnsInHanded_of_change_sized (C:=Tryz.checked) own started (by kernel_rfl) Tryz.func8
  (ChangeSpec.witness6 (enc:=enc) (C:=Tryz.checked) false ⟨#[],#[.slice none 0 0],[]⟩ 8 (by kernel_rfl) (by kernel_rfl) (by kernel_rfl) (by kernel_rfl)) ?_
 intro W base args ds gs before hval0 hW hcnd hsz0 _
 have hval:∀(j:Nat) t v,Tryz.f8.params[j]?=some t→args[j]?=some v→Value.okWide Tryz.prog W .any base t v:=hval0
 have hW':=hW
 obtain ⟨p,q,hA0,hV,rfl,hfz,hnd⟩:=hW
 have hA:DataW.TrodAll enc Tryz.prog W 0 (fun _=>true) true Tryz.f8.params.toList args.toList ds p:=hA0
 rw [Tryz.params8] at hA hval
 obtain ⟨v0,vs0,d0,ds0,p0,q0,hargs,rfl,rfl,h0,r0⟩:=trodAll_cons hA
 obtain ⟨rfl,rfl,rfl⟩:=trodAll_nil r0
 obtain rfl:args=#[v0]:=by cases args;simp_all
 obtain ⟨rfl,rfl⟩:=trodVars_none hV
 have k0:=h0
 have lt0:∀x∈p0,x.block<W.heap.size:=by obtain ⟨m,hm⟩:=k0;exact DataW.trod_lt m _ _ _ hm
 obtain ⟨b0,len0,cap0,rfl⟩:=okWide_slice Tryz.underlying53 (hval 0 53 v0 rfl rfl)
 obtain ⟨fuel0,hf0⟩:=h0
 obtain ⟨x0,kx0,w0⟩:=((opens_slice tbl Tryz.underlying53 (by kernel_rfl) (by kernel_rfl) rfl (by first | exact .inl (fun _=>rfl) | exact .inr ⟨_,rfl⟩) (fun m_ hm_=>(opens_int Tryz.underlying5))):Opens enc Tryz.prog TT W 53 (.lst (.int .u8)) (fun a=>(a.length≤maxLen∧∀y∈a,(Lit.int .u8 y).wf=true)) fuel0) _ _ hf0
 clear hA0 hval0 hsz0
 obtain ⟨k,hk⟩:=Pure.FnBothAtOnce x0 w0
 refine (law_calls (laws_FnBothAtOnce.ok k) (x:=x0) (r:=true) (cargs:=[.slice b0 len0 cap0]) hk (repL_cons (rep_one kx0) (repL_nil))).mono fun e W' ⟨he,bel⟩=>?_
 subst he
 exact ⟨_,rfl,_,_,_,[],_,[],hW',trodAll_mk1 (shut_bool Tryz.underlying4 _),(trodAll_cons_mk (Below.trod laidOut (by kernel_rfl) (of_decide_eq_true (by kernel_rfl)) k0 bel lt0) trodAll_mk0),rfl,bel.frame _,fun h=>by cases h⟩
theorem closed_:joinedFacts Tryz.prog 8 Tryz.f8 Rows.fnBothAtOnceSpec Rows.fnBothAtOnceRow=true:=by kernel_rfl
theorem over:Rows.fnBothAtOnceRow.holds Tryz.pinned (OpenSpec.ofChange Rows.fnBothAtOnceSpec):=
 OpenClaim.holds_of_wide 8 Tryz.f8 rfl rfl rfl rfl rfl rfl rfl ⟨rfl,rfl,rfl,rfl,rfl⟩ rfl rfl rfl rfl rfl (by kernel_rfl) Tryz.func8 closed_
  (of_decide_eq_true (by kernel_rfl)) (by unfold Func.isWrapper;first | (rw [if_pos (by decide+kernel)];kernel_rfl) | (rw [if_neg (by decide+kernel)];exact ⟨rfl,rfl⟩))
  (fun os started H enc _=>lifted os started H enc)
theorem proved:Rows.FnBothAtOnceSaid:=over
#print axioms proved
end Go.Proofs.YtggmgmkhohmfiaaGreat.fnBothAtOnce
namespace Go.Proofs.YtggmgmkhohmfiaaGreat
theorem fnBothAtOnce_holds:Rows.FnBothAtOnceSaid:=fnBothAtOnce.proved
end Go.Proofs.YtggmgmkhohmfiaaGreat
