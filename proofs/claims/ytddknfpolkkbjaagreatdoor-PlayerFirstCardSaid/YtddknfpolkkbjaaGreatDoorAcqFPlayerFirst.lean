/- PlayerFirst: the statement. -/
import Derived.Test.YtddknfpolkkbjaaGreatDoorCards
import Derived.Test.YtddknfpolkkbjaaGreatDoorTie
import Derived.Test.YtddknfpolkkbjaaGreatDoorA2
import Derived.SevenTiedAt
import Derived.Lay
import Derived.Test.YtddknfpolkkbjaaGreatDoorRows
import Derived.Test.YtddknfpolkkbjaaGreatDoorA6
import Derived.Test.YtddknfpolkkbjaaGreatDoorA1
import Derived.WalkKit
import Derived.ProofKit
import Derived.OpenShut
import Derived.ShutString
import Derived.ChangeOld
import Derived.Below
import Derived.Test.YtddknfpolkkbjaaGreatDoorA7
import Derived.Test.YtddknfpolkkbjaaGreatDoorA9
import Derived.Test.YtddknfpolkkbjaaGreatDoorA8
namespace Go.Proofs.YtddknfpolkkbjaaGreatDoor
open Go.ChangeShapes Go.WideShapes Go.ChangeAt Go.RowKit Go.Deep
set_option linter.unusedVariables false
theorem ownPlayerFirst:ownKnob Tryz.prog.godebug=none:=by kernel_rfl
theorem laidPlayerFirst:laidOutB Tryz.prog=true:=by kernel_rfl
theorem kPlayerFirst2:Tryz.prog.underlying 2=some (.int .i64):=by kernel_rfl
theorem kPlayerFirst22:Tryz.prog.underlying 22=some (.slice 64):=by kernel_rfl
theorem kPlayerFirst3:Tryz.prog.underlying 3=some (.int .i64):=by kernel_rfl
theorem kPlayerFirst4:Tryz.prog.underlying 4=some .bool:=by kernel_rfl
theorem gPPlayerFirst:Tryz.prog.globalNamed "internal/strconv.uint64pow10"=some 4:=by kernel_rfl
theorem hPPlayerFirst:(Tryz.prog.globals[4]?).map (·.type)=some 228:=by kernel_rfl
theorem uPPlayerFirst:Tryz.prog.underlying 228=some (.array 20 171):=by kernel_rfl
theorem ePPlayerFirst:Tryz.prog.underlying 171=some (.int .u64):=by kernel_rfl
theorem cPPlayerFirst:Tryz.prog.cellsOf 171=1:=by kernel_rfl
theorem dPPlayerFirst:Tryz.prog.cellsOf 228=20:=by kernel_rfl
theorem tabPlayerFirst:(Rows.laid_internal_strconv_uint64pow10:DataW Unit)=Lib.tabData .u64 Lib.pow10Tab:=by kernel_rfl
theorem gSPlayerFirst:Tryz.prog.globalNamed "strconv.ErrSyntax"=some 5:=by kernel_rfl
theorem hSPlayerFirst:(Tryz.prog.globals[5]?).map (·.type)=some 95:=by kernel_rfl
theorem gRPlayerFirst:Tryz.prog.globalNamed "strconv.ErrRange"=some 6:=by kernel_rfl
theorem hRPlayerFirst:(Tryz.prog.globals[6]?).map (·.type)=some 95:=by kernel_rfl
theorem uSPlayerFirst:Tryz.prog.underlying 390=some (.pointer 392):=by kernel_rfl
theorem ctPlayerFirst:Tryz.prog.cellsOf 392=1:=by kernel_rfl
theorem csPlayerFirst:Tryz.prog.cellsOf 9=1:=by kernel_rfl
theorem usPlayerFirst:Tryz.prog.underlying 9=some .string:=by kernel_rfl
theorem slPlayerFirst: "*" ++ "errors.errorString" = "*errors.errorString":=by decide
theorem rwPlayerFirst (u:TypeId)(h:Tryz.prog.typeName? 3 u=some "*errors.errorString"):u=390 :=
 typeName_ptr_named (nm:= "errors.errorString") (by rw [slPlayerFirst];kernel_rfl) (by kernel_rfl) (by decide) u (by rw [slPlayerFirst];exact h)
theorem gMPlayerFirst:Tryz.prog.globalNamed "internal/bytealg.MaxLen"=some 0:=by kernel_rfl
theorem gkPlayerFirst {W:World}(hL:laidMetH Tryz.prog Rows.playerFirstRow.laid W)(hS:W.ShapedOpen Tryz.prog):Acq.GK Tryz.prog W []:=by
 rw [MakeChecks.laidMetH_plain _ _ _ (by kernel_rfl)] at hL
 have hK:laidMet Tryz.prog [("math/bits.deBruijn32tab",Rows.laid_math_bits_deBruijn32tab),("math/bits.deBruijn64tab",Rows.laid_math_bits_deBruijn64tab),("internal/strconv.uint64pow10",Rows.laid_internal_strconv_uint64pow10),("unicode/utf8.acceptRanges",Rows.laid_unicode_utf8_acceptRanges),("strconv.ErrRange",Rows.laid_strconv_ErrRange),("strconv.ErrSyntax",Rows.laid_strconv_ErrSyntax),("bytes.ErrTooLarge",Rows.laid_bytes_ErrTooLarge),("unicode/utf8.first",Rows.laid_unicode_utf8_first)] W:=hL
 have h1:=hK.tail.tail
 rw [tabPlayerFirst] at h1
 obtain ⟨_,_,vs,-⟩:=laid_sentinel (hK.tail.tail.tail.tail.tail) gSPlayerFirst hSPlayerFirst Tryz.underlying95 rwPlayerFirst uSPlayerFirst Tryz.underlying392 rfl rfl usPlayerFirst ctPlayerFirst csPlayerFirst
 obtain ⟨_,_,vr,-⟩:=laid_sentinel (hK.tail.tail.tail.tail) gRPlayerFirst hRPlayerFirst Tryz.underlying95 rwPlayerFirst uSPlayerFirst Tryz.underlying392 rfl rfl usPlayerFirst ctPlayerFirst csPlayerFirst
 exact ⟨Lib.tabIs_of_head gPPlayerFirst hPPlayerFirst uPPlayerFirst ePPlayerFirst cPPlayerFirst dPPlayerFirst h1,⟨_,_,vs⟩,⟨_,_,vr⟩,Acq.int_of_shaped (t:=3) hS gMPlayerFirst (of_decide_eq_true (by kernel_rfl)) (zero:=#[.int .i64 0]) (by kernel_rfl) (by kernel_rfl) (by kernel_rfl) (by kernel_rfl) (by kernel_rfl),fun _ _ _ _=>by simp⟩
set_option maxRecDepth 100000 in
theorem lifted_playerFirst (os:Os) (started:os.Started) (H:Type) (enc:TypeId×Value→H) :
    ReturnsInHanded {} Tryz.checked os 4 .any (fun w args=>(Rows.playerFirstSpec.pre enc Tryz.prog Tryz.f4 [] false w args∧laidMetH Tryz.prog Rows.playerFirstRow.laid w)∧sizedMet enc Tryz.prog Tryz.f4 (OpenSpec.ofChange Rows.playerFirstSpec) false w args)
      (Rows.playerFirstSpec.post enc Tryz.prog Tryz.f4 false true false false):=by
  refine Acq.handed_of_change (C:=Tryz.checked) (X:=fun w _=>laidMetH Tryz.prog Rows.playerFirstRow.laid w) (fun _ _ _ hh h=>h.of_heap hh) ownPlayerFirst started (by kernel_rfl) Tryz.func4
    (ChangeSpec.witness_shaped (enc:=enc) (C:=Tryz.checked) (os:=os) (X:=fun w _=>laidMetH Tryz.prog Rows.playerFirstRow.laid w) false (World.laidAll Tryz.prog os Rows.playerFirstRow.laid) #[.int .i64 0,.int .i64 0,.agg #[.int .i64 0,.int .i64 0,.int .i64 0,.slice none 0 0],.bool false,.bool false] 8 (World.laidAll_os _ _ _)
      (World.shaped_of_ZipB (by kernel_rfl) (by kernel_rfl)) (by kernel_rfl) (by kernel_rfl) (by kernel_rfl)
      (by rw [MakeChecks.laidMetH_plain _ _ _ (by kernel_rfl)];exact laidMet_laidAll _ (by kernel_rfl) (by kernel_rfl))) ?_
  intro W base args ds gs before hval0 hW hL hSh
  have hval:∀ (j:Nat) t v,Tryz.f4.params[j]?=some t→args[j]?=some v→Value.okWide Tryz.prog W .any base t v:=hval0
  have hW':=hW
  obtain ⟨p,q,hA0,hV,rfl,hfz,hnd⟩:=hW
  have hA:DataW.TrodAll enc Tryz.prog W 0 (fun _=>true) true Tryz.f4.params.toList args.toList ds p:=hA0
  rw [show Tryz.f4.params=#[3,3,24,4,4] by kernel_rfl] at hA hval
  obtain ⟨v0,vs0,d0_,ds0,p0_,q0_,hargs,rfl,rfl,h0,r0⟩:=trodAll_cons hA
  obtain ⟨v1,vs1,d1_,ds1,p1_,q1_,rfl,rfl,rfl,h1,r1⟩:=trodAll_cons r0
  obtain ⟨v2,vs2,d2_,ds2,p2_,q2_,rfl,rfl,rfl,h2,r2⟩:=trodAll_cons r1
  obtain ⟨v3,vs3,d3_,ds3,p3_,q3_,rfl,rfl,rfl,h3,r3⟩:=trodAll_cons r2
  obtain ⟨v4,vs4,d4_,ds4,p4_,q4_,rfl,rfl,rfl,h4,r4⟩:=trodAll_cons r3
  obtain ⟨rfl,rfl,rfl⟩:=trodAll_nil r4
  obtain rfl:args=#[v0,v1,v2,v3,v4]:=by cases args;simp_all
  obtain ⟨rfl,rfl⟩:=trodVars_none hV
  have k0:=h0
  have lt0:∀ x∈p0_,x.block<W.heap.size:=by obtain ⟨m,hm⟩:=k0;exact DataW.trod_lt m _ _ _ hm
  have k1:=h1
  have lt1:∀ x∈p1_,x.block<W.heap.size:=by obtain ⟨m,hm⟩:=k1;exact DataW.trod_lt m _ _ _ hm
  have k2:=h2
  have lt2:∀ x∈p2_,x.block<W.heap.size:=by obtain ⟨m,hm⟩:=k2;exact DataW.trod_lt m _ _ _ hm
  have k3:=h3
  have lt3:∀ x∈p3_,x.block<W.heap.size:=by obtain ⟨m,hm⟩:=k3;exact DataW.trod_lt m _ _ _ hm
  have k4:=h4
  have lt4:∀ x∈p4_,x.block<W.heap.size:=by obtain ⟨m,hm⟩:=k4;exact DataW.trod_lt m _ _ _ hm
  obtain ⟨x0,rfl⟩:=okWide_int kPlayerFirst3 (hval 0 3 _ rfl rfl)
  obtain ⟨f0,hf0⟩:=h0
  obtain ⟨z0,e0,_,wf0⟩:=DataW.trod_int kPlayerFirst3 hf0
  obtain rfl:x0=z0:=by injection e0 with e0 _;injection e0
  obtain ⟨x1,rfl⟩:=okWide_int kPlayerFirst3 (hval 1 3 _ rfl rfl)
  obtain ⟨f1,hf1⟩:=h1
  obtain ⟨z1,e1,_,wf1⟩:=DataW.trod_int kPlayerFirst3 hf1
  obtain rfl:x1=z1:=by injection e1 with e1 _;injection e1
  obtain ⟨v0_2,v1_2,v2_2,v3_2,y0_2,y1_2,y2_2,y3_2,m_2,rfl,_,_,t0_2,t1_2,t2_2,t3_2⟩:=Joins.open_agg4 Tryz.underlying24 (by kernel_rfl) (by kernel_rfl) (hval 2 24 _ rfl rfl) h2
  obtain ⟨z0_2,g0_2,_,w0_2⟩:=DataW.trod_int kPlayerFirst3 t0_2
  injection g0_2 with g0_2 _;subst g0_2
  obtain ⟨z1_2,g1_2,_,w1_2⟩:=DataW.trod_int kPlayerFirst3 t1_2
  injection g1_2 with g1_2 _;subst g1_2
  obtain ⟨z2_2,g2_2,_,w2_2⟩:=DataW.trod_int kPlayerFirst3 t2_2
  injection g2_2 with g2_2 _;subst g2_2
  obtain ⟨b2,n2,d2,al2,q2,ro2,hc2,hn2,hx2⟩:=Acq.open_arcs kPlayerFirst22 Tryz.underlying64 rfl (by kernel_rfl) (by kernel_rfl) kPlayerFirst3 kPlayerFirst3 kPlayerFirst2 t3_2
  cases q2
  obtain ⟨x3,rfl⟩:=okWide_bool kPlayerFirst4 (hval 3 4 _ rfl rfl)
  obtain ⟨x4,rfl⟩:=okWide_bool kPlayerFirst4 (hval 4 4 _ rfl rfl)
  clear hA0 hval0
  refine Calls.mono (Ax.w_acequialaw29_PlayerFirst (workers0:=x0) (limit1:=x1) (n2:=(Acq.Net.mk z0_2 z1_2 z2_2 al2)) (line3:=x3) (ends4:=x4) W (⟨ro2,fun _ _ _=>by simp,hc2⟩:Acq.RS W [] _ _ _ _ _ _) (gkPlayerFirst hL hSh) (r0:=true) (Acq.p_PlayerFirst (Acq.i64ok_wf wf0) (Acq.i64ok_wf wf1) ⟨Acq.i64ok_wf w0_2,Acq.i64ok_wf w1_2,Acq.i64ok_wf w2_2,fun a ha=>⟨(hx2 a ha).1,(hx2 a ha).2.1,(hx2 a ha).2.2⟩,by show al2.length≤_;have:=ro2.len;omega⟩)) fun e W' he=>?_
  obtain ⟨v,N,⟨rfl,rfl⟩,he',hi⟩:=he
  have bel:=hi.below
  subst he'
  exact ⟨_,rfl,_,_,_,[],_,[],hW',trodAll_mk1 (shut_bool kPlayerFirst4 _),(trodAll_cons_mk (Below.trod laidPlayerFirst (by kernel_rfl) (of_decide_eq_true (by kernel_rfl)) k0 bel lt0) (trodAll_cons_mk (Below.trod laidPlayerFirst (by kernel_rfl) (of_decide_eq_true (by kernel_rfl)) k1 bel lt1) (trodAll_cons_mk (Below.trod laidPlayerFirst (by kernel_rfl) (of_decide_eq_true (by kernel_rfl)) k2 bel lt2) (trodAll_cons_mk (Below.trod laidPlayerFirst (by kernel_rfl) (of_decide_eq_true (by kernel_rfl)) k3 bel lt3) (trodAll_cons_mk (Below.trod laidPlayerFirst (by kernel_rfl) (of_decide_eq_true (by kernel_rfl)) k4 bel lt4) trodAll_mk0))))),rfl,bel.frame _,fun h=>by cases h⟩
theorem playerFirst_row:Rows.PlayerFirstSaid :=
 OpenClaim.holds_of_wide 4 Tryz.f4 rfl rfl rfl rfl rfl rfl rfl ⟨rfl,rfl,rfl,rfl,rfl⟩ rfl rfl rfl rfl rfl (by kernel_rfl) Tryz.func4 jFPlayerFirst
  (of_decide_eq_true (by kernel_rfl)) (by unfold Func.isWrapper;first | (rw [if_pos (by decide +kernel)];kernel_rfl) | (rw [if_neg (by decide +kernel)];exact ⟨rfl,rfl⟩))
  (fun os started H enc _=>lifted_playerFirst os started H enc)
theorem playerFirst_holds:Rows.PlayerFirstCardSaid :=
 Claim7.holds_tied_plain_at .later [] [.data,.data,.data,.data,.sentinel,.sentinel,.sentinel,.pinned] true (true,"fd19057fe9e4215cef46eeb5084934125b9f08fb7c6838f8aac3e9dbf6d2ba38") true playerFirst_row (fun _ h=>by cases h) (by kernel_rfl) (fun _ h=>by cases h) playerFirst_row_tie rfl ⟨rfl,rfl⟩ (by kernel_rfl) rfl
  (fun f fn hf hfn=>by
   obtain rfl:f=4:=Option.some.inj ((show Tryz.prog.funcNamed "acequia/acequialaw29.PlayerFirst"=some 4 by kernel_rfl).symm.trans hf) |>.symm
   obtain rfl:fn=Tryz.f4:=(Option.some.inj (Tryz.func4.symm.trans hfn)).symm
   exact ⟨by kernel_rfl,fun j t ht=>by
    rw [show Tryz.f4.params=#[3,3,24,4,4] by kernel_rfl] at ht
    have hm:t∈[3,3,24,4,4]:=by simpa using Array.mem_of_getElem? ht
    have hall:([3,3,24,4,4].all fun u=>!Tryz.prog.wantsStandIn u)=true:=by kernel_rfl
    exact (show Tryz.prog.wantsStandIn t=false by simpa using List.all_eq_true.1 hall t hm)⟩)
  playerFirst_goes
end Go.Proofs.YtddknfpolkkbjaaGreatDoor
