/- WorkerOwns: the statement. -/
import Derived.Test.YtcopaajoahfilaaGreatRows
import Derived.Test.YtcopaajoahfilaaGreatA5
import Derived.Test.YtcopaajoahfilaaGreatA6
import Derived.Test.YtcopaajoahfilaaGreatA2
import Derived.WalkKit
import Derived.ProofKit
import Derived.OpenShut
import Derived.ShutString
import Derived.ChangeOld
import Derived.Below
import Derived.Test.YtcopaajoahfilaaGreatA7
namespace Go.Proofs.YtcopaajoahfilaaGreat
open Go.ChangeShapes Go.WideShapes Go.ChangeAt Go.RowKit Go.Deep
set_option linter.unusedVariables false
theorem ownWorkerOwns:ownKnob Tryz.prog.godebug=none:=by kernel_rfl
theorem laidWorkerOwns:laidOutB Tryz.prog=true:=by kernel_rfl
theorem kWorkerOwns2:Tryz.prog.underlying 2=some (.int .i64):=by kernel_rfl
theorem kWorkerOwns22:Tryz.prog.underlying 22=some (.slice 72):=by kernel_rfl
theorem kWorkerOwns25:Tryz.prog.underlying 25=some (.slice 5):=by kernel_rfl
theorem kWorkerOwns3:Tryz.prog.underlying 3=some (.int .i64):=by kernel_rfl
theorem kWorkerOwns4:Tryz.prog.underlying 4=some .bool:=by kernel_rfl
theorem kWorkerOwns5:Tryz.prog.underlying 5=some (.int .u8):=by kernel_rfl
set_option maxRecDepth 100000 in
theorem lifted_workerOwns (os:Os) (started:os.Started) (H:Type) (enc:TypeId×Value→H) :
    ReturnsInHanded {} Tryz.checked os 3 .any (Rows.workerOwnsSpec.pre6 enc Tryz.prog Tryz.f3 Rows.workerOwnsRow.domain false) (Rows.workerOwnsSpec.post enc Tryz.prog Tryz.f3 false true false false):=by
  refine returnsInHanded_of_change (C:=Tryz.checked) ownWorkerOwns started (by kernel_rfl) Tryz.func3
    (ChangeSpec.witness6 (enc:=enc) (C:=Tryz.checked) false ⟨#[],#[.agg #[.int .i64 0,.int .i64 0,.int .i64 0,.slice none 0 0],.int .u8 0,.int .u8 0,.slice none 0 0],[]⟩ 8 (by kernel_rfl) (by kernel_rfl) (by kernel_rfl) (by kernel_rfl)) ?_
  intro W base args ds gs before hval0 hW hcnd _
  have hval:∀ (j:Nat) t v,Tryz.f3.params[j]?=some t→args[j]?=some v→Value.okWide Tryz.prog W .any base t v:=hval0
  have hW':=hW
  obtain ⟨p,q,hA0,hV,rfl,hfz,hnd⟩:=hW
  have hA:DataW.TrodAll enc Tryz.prog W 0 (fun _=>true) true Tryz.f3.params.toList args.toList ds p:=hA0
  rw [show Tryz.f3.params=#[24,5,5,25] by kernel_rfl] at hA hval
  obtain ⟨v0,vs0,d0_,ds0,p0_,q0_,hargs,rfl,rfl,h0,r0⟩:=trodAll_cons hA
  obtain ⟨v1,vs1,d1_,ds1,p1_,q1_,rfl,rfl,rfl,h1,r1⟩:=trodAll_cons r0
  obtain ⟨v2,vs2,d2_,ds2,p2_,q2_,rfl,rfl,rfl,h2,r2⟩:=trodAll_cons r1
  obtain ⟨v3,vs3,d3_,ds3,p3_,q3_,rfl,rfl,rfl,h3,r3⟩:=trodAll_cons r2
  obtain ⟨rfl,rfl,rfl⟩:=trodAll_nil r3
  obtain rfl:args=#[v0,v1,v2,v3]:=by cases args;simp_all
  obtain ⟨rfl,rfl⟩:=trodVars_none hV
  have k0:=h0
  have lt0:∀ x∈p0_,x.block<W.heap.size:=by obtain ⟨m,hm⟩:=k0;exact DataW.trod_lt m _ _ _ hm
  have k1:=h1
  have lt1:∀ x∈p1_,x.block<W.heap.size:=by obtain ⟨m,hm⟩:=k1;exact DataW.trod_lt m _ _ _ hm
  have k2:=h2
  have lt2:∀ x∈p2_,x.block<W.heap.size:=by obtain ⟨m,hm⟩:=k2;exact DataW.trod_lt m _ _ _ hm
  have k3:=h3
  have lt3:∀ x∈p3_,x.block<W.heap.size:=by obtain ⟨m,hm⟩:=k3;exact DataW.trod_lt m _ _ _ hm
  obtain ⟨v0_0,v1_0,v2_0,v3_0,y0_0,y1_0,y2_0,y3_0,m_0,rfl,_,_,t0_0,t1_0,t2_0,t3_0⟩:=Joins.open_agg4 Tryz.underlying24 (by kernel_rfl) (by kernel_rfl) (hval 0 24 _ rfl rfl) h0
  obtain ⟨z0_0,g0_0,_,w0_0⟩:=DataW.trod_int kWorkerOwns3 t0_0
  injection g0_0 with g0_0 _;subst g0_0
  obtain ⟨z1_0,g1_0,_,w1_0⟩:=DataW.trod_int kWorkerOwns3 t1_0
  injection g1_0 with g1_0 _;subst g1_0
  obtain ⟨z2_0,g2_0,_,w2_0⟩:=DataW.trod_int kWorkerOwns3 t2_0
  injection g2_0 with g2_0 _;subst g2_0
  obtain ⟨b0,n0,d0,al0,q0,ro0,hc0,hn0,hx0⟩:=Acq.open_arcs kWorkerOwns22 Tryz.underlying72 rfl (by kernel_rfl) (by kernel_rfl) kWorkerOwns3 kWorkerOwns3 kWorkerOwns2 t3_0
  cases q0
  obtain ⟨x1,rfl⟩:=okWide_int kWorkerOwns5 (hval 1 5 _ rfl rfl)
  obtain ⟨f1,hf1⟩:=h1
  obtain ⟨z1,e1,_,wf1⟩:=DataW.trod_int kWorkerOwns5 hf1
  obtain rfl:x1=z1:=by injection e1 with e1 _;injection e1
  obtain ⟨x2,rfl⟩:=okWide_int kWorkerOwns5 (hval 2 5 _ rfl rfl)
  obtain ⟨f2,hf2⟩:=h2
  obtain ⟨z2,e2,_,wf2⟩:=DataW.trod_int kWorkerOwns5 hf2
  obtain rfl:x2=z2:=by injection e2 with e2 _;injection e2
  obtain ⟨a3,l3,c3,rfl⟩:=okWide_slice kWorkerOwns25 (hval 3 25 _ rfl rfl)
  obtain ⟨f3,hf3⟩:=h3
  obtain ⟨b3,n3,d3,xs3,q3,ro3,hc3,hn3,hx3⟩:=Acq.open_row (k:=.u8) kWorkerOwns25 kWorkerOwns5 (by kernel_rfl) hf3
  cases q3
  clear hA0 hval0
  refine Calls.mono (Ax.w_acequialaw16_WorkerOwns (n0:=(Acq.Net.mk z0_0 z1_0 z2_0 al0)) (workers1:=x1) (limit2:=x2) (picks3:=xs3) W (⟨ro0,fun _ _ _=>by simp,hc0⟩:Acq.RS W [] _ _ _ _ _ _) (⟨ro3,fun _ _ _=>by simp,hc3⟩:Acq.RS W [] _ _ _ _ _ _) (r0:=true) (Acq.p_WorkerOwns ⟨Acq.i64ok_wf w0_0,Acq.i64ok_wf w1_0,Acq.i64ok_wf w2_0,fun a ha=>⟨(hx0 a ha).1,(hx0 a ha).2.1,(hx0 a ha).2.2⟩,by show al0.length≤_;have:=ro0.len;omega⟩ (Acq.u8ok_wf wf1) (Acq.u8ok_wf wf2) ⟨fun y hy=>Acq.u8ok_wf (hx3 y hy),by have:=ro3.len;omega⟩)) fun e W' he=>?_
  obtain ⟨v,N,⟨rfl,rfl⟩,he',hi⟩:=he
  have bel:=hi.below
  subst he'
  exact ⟨_,rfl,_,_,_,[],_,[],hW',trodAll_mk1 (shut_bool kWorkerOwns4 _),(trodAll_cons_mk (Below.trod laidWorkerOwns (by kernel_rfl) (of_decide_eq_true (by kernel_rfl)) k0 bel lt0) (trodAll_cons_mk (Below.trod laidWorkerOwns (by kernel_rfl) (of_decide_eq_true (by kernel_rfl)) k1 bel lt1) (trodAll_cons_mk (Below.trod laidWorkerOwns (by kernel_rfl) (of_decide_eq_true (by kernel_rfl)) k2 bel lt2) (trodAll_cons_mk (Below.trod laidWorkerOwns (by kernel_rfl) (of_decide_eq_true (by kernel_rfl)) k3 bel lt3) trodAll_mk0)))),rfl,bel.frame _,fun h=>by cases h⟩
theorem workerOwns_holds:Rows.WorkerOwnsSaid :=
 OpenClaim.holds_of_wide 3 Tryz.f3 rfl rfl rfl rfl rfl rfl rfl ⟨rfl,rfl,rfl,rfl,rfl⟩ rfl rfl rfl rfl rfl (by kernel_rfl) Tryz.func3 jFWorkerOwns
  (of_decide_eq_true (by kernel_rfl)) (by unfold Func.isWrapper;first | (rw [if_pos (by decide +kernel)];kernel_rfl) | (rw [if_neg (by decide +kernel)];exact ⟨rfl,rfl⟩))
  (fun os started H enc _=>lifted_workerOwns os started H enc)
end Go.Proofs.YtcopaajoahfilaaGreat
