/- PlayerPlans: the statement. -/
import Derived.Test.YtddknfpolkkbjaaGreatDoorCards
import Derived.Test.YtddknfpolkkbjaaGreatDoorTie
import Derived.Test.YtddknfpolkkbjaaGreatDoorA2
import Derived.SevenTiedAt
import Derived.Lay
import Derived.Test.YtddknfpolkkbjaaGreatDoorRows
import Derived.Test.YtddknfpolkkbjaaGreatDoorA6
import Derived.Test.YtddknfpolkkbjaaGreatDoorA1
import Derived.WalkKit
import Derived.ProofKit
import Derived.OpenShut
import Derived.ShutString
import Derived.ChangeOld
import Derived.Below
import Derived.Test.YtddknfpolkkbjaaGreatDoorA7
import Derived.Test.YtddknfpolkkbjaaGreatDoorA9
import Derived.Test.YtddknfpolkkbjaaGreatDoorA8
namespace Go.Proofs.YtddknfpolkkbjaaGreatDoor
open Go.ChangeShapes Go.WideShapes Go.ChangeAt Go.RowKit Go.Deep
set_option linter.unusedVariables false
theorem ownPlayerPlans:ownKnob Tryz.prog.godebug=none:=by kernel_rfl
theorem laidPlayerPlans:laidOutB Tryz.prog=true:=by kernel_rfl
theorem kPlayerPlans4:Tryz.prog.underlying 4=some .bool:=by kernel_rfl
theorem kPlayerPlans54:Tryz.prog.underlying 54=some (.slice 56):=by kernel_rfl
theorem kPlayerPlans56:Tryz.prog.underlying 56=some (.int .u32):=by kernel_rfl
theorem kPlayerPlans9:Tryz.prog.underlying 9=some .string:=by kernel_rfl
theorem gPPlayerPlans:Tryz.prog.globalNamed "internal/strconv.uint64pow10"=some 4:=by kernel_rfl
theorem hPPlayerPlans:(Tryz.prog.globals[4]?).map (·.type)=some 228:=by kernel_rfl
theorem uPPlayerPlans:Tryz.prog.underlying 228=some (.array 20 171):=by kernel_rfl
theorem ePPlayerPlans:Tryz.prog.underlying 171=some (.int .u64):=by kernel_rfl
theorem cPPlayerPlans:Tryz.prog.cellsOf 171=1:=by kernel_rfl
theorem dPPlayerPlans:Tryz.prog.cellsOf 228=20:=by kernel_rfl
theorem tabPlayerPlans:(Rows.laid_internal_strconv_uint64pow10:DataW Unit)=Lib.tabData .u64 Lib.pow10Tab:=by kernel_rfl
theorem gSPlayerPlans:Tryz.prog.globalNamed "strconv.ErrSyntax"=some 5:=by kernel_rfl
theorem hSPlayerPlans:(Tryz.prog.globals[5]?).map (·.type)=some 95:=by kernel_rfl
theorem gRPlayerPlans:Tryz.prog.globalNamed "strconv.ErrRange"=some 6:=by kernel_rfl
theorem hRPlayerPlans:(Tryz.prog.globals[6]?).map (·.type)=some 95:=by kernel_rfl
theorem uSPlayerPlans:Tryz.prog.underlying 390=some (.pointer 392):=by kernel_rfl
theorem ctPlayerPlans:Tryz.prog.cellsOf 392=1:=by kernel_rfl
theorem csPlayerPlans:Tryz.prog.cellsOf 9=1:=by kernel_rfl
theorem usPlayerPlans:Tryz.prog.underlying 9=some .string:=by kernel_rfl
theorem slPlayerPlans: "*" ++ "errors.errorString" = "*errors.errorString":=by decide
theorem rwPlayerPlans (u:TypeId)(h:Tryz.prog.typeName? 3 u=some "*errors.errorString"):u=390 :=
 typeName_ptr_named (nm:= "errors.errorString") (by rw [slPlayerPlans];kernel_rfl) (by kernel_rfl) (by decide) u (by rw [slPlayerPlans];exact h)
theorem gMPlayerPlans:Tryz.prog.globalNamed "internal/bytealg.MaxLen"=some 0:=by kernel_rfl
theorem gkPlayerPlans {W:World}(hL:laidMetH Tryz.prog Rows.playerPlansRow.laid W)(hS:W.ShapedOpen Tryz.prog):Acq.GK Tryz.prog W []:=by
 rw [MakeChecks.laidMetH_plain _ _ _ (by kernel_rfl)] at hL
 have hK:laidMet Tryz.prog [("math/bits.deBruijn32tab",Rows.laid_math_bits_deBruijn32tab),("math/bits.deBruijn64tab",Rows.laid_math_bits_deBruijn64tab),("internal/strconv.uint64pow10",Rows.laid_internal_strconv_uint64pow10),("unicode/utf8.acceptRanges",Rows.laid_unicode_utf8_acceptRanges),("strconv.ErrRange",Rows.laid_strconv_ErrRange),("strconv.ErrSyntax",Rows.laid_strconv_ErrSyntax),("bytes.ErrTooLarge",Rows.laid_bytes_ErrTooLarge),("unicode/utf8.first",Rows.laid_unicode_utf8_first)] W:=hL
 have h1:=hK.tail.tail
 rw [tabPlayerPlans] at h1
 obtain ⟨_,_,vs,-⟩:=laid_sentinel (hK.tail.tail.tail.tail.tail) gSPlayerPlans hSPlayerPlans Tryz.underlying95 rwPlayerPlans uSPlayerPlans Tryz.underlying392 rfl rfl usPlayerPlans ctPlayerPlans csPlayerPlans
 obtain ⟨_,_,vr,-⟩:=laid_sentinel (hK.tail.tail.tail.tail) gRPlayerPlans hRPlayerPlans Tryz.underlying95 rwPlayerPlans uSPlayerPlans Tryz.underlying392 rfl rfl usPlayerPlans ctPlayerPlans csPlayerPlans
 exact ⟨Lib.tabIs_of_head gPPlayerPlans hPPlayerPlans uPPlayerPlans ePPlayerPlans cPPlayerPlans dPPlayerPlans h1,⟨_,_,vs⟩,⟨_,_,vr⟩,Acq.int_of_shaped (t:=3) hS gMPlayerPlans (of_decide_eq_true (by kernel_rfl)) (zero:=#[.int .i64 0]) (by kernel_rfl) (by kernel_rfl) (by kernel_rfl) (by kernel_rfl) (by kernel_rfl),fun _ _ _ _=>by simp⟩
set_option maxRecDepth 100000 in
theorem lifted_playerPlans (os:Os) (started:os.Started) (H:Type) (enc:TypeId×Value→H) :
    ReturnsInHanded {} Tryz.checked os 5 .any (fun w args=>(Rows.playerPlansSpec.pre enc Tryz.prog Tryz.f5 [] false w args∧laidMetH Tryz.prog Rows.playerPlansRow.laid w)∧sizedMet enc Tryz.prog Tryz.f5 (OpenSpec.ofChange Rows.playerPlansSpec) false w args)
      (Rows.playerPlansSpec.post enc Tryz.prog Tryz.f5 false true false false):=by
  refine Acq.handed_of_change (C:=Tryz.checked) (X:=fun w _=>laidMetH Tryz.prog Rows.playerPlansRow.laid w) (fun _ _ _ hh h=>h.of_heap hh) ownPlayerPlans started (by kernel_rfl) Tryz.func5
    (ChangeSpec.witness_shaped (enc:=enc) (C:=Tryz.checked) (os:=os) (X:=fun w _=>laidMetH Tryz.prog Rows.playerPlansRow.laid w) false (World.laidAll Tryz.prog os Rows.playerPlansRow.laid) #[.slice none 0 0,.string ByteArray.empty] 8 (World.laidAll_os _ _ _)
      (World.shaped_of_ZipB (by kernel_rfl) (by kernel_rfl)) (by kernel_rfl) (by kernel_rfl) (by kernel_rfl)
      (by rw [MakeChecks.laidMetH_plain _ _ _ (by kernel_rfl)];exact laidMet_laidAll _ (by kernel_rfl) (by kernel_rfl))) ?_
  intro W base args ds gs before hval0 hW hL hSh
  have hval:∀ (j:Nat) t v,Tryz.f5.params[j]?=some t→args[j]?=some v→Value.okWide Tryz.prog W .any base t v:=hval0
  have hW':=hW
  obtain ⟨p,q,hA0,hV,rfl,hfz,hnd⟩:=hW
  have hA:DataW.TrodAll enc Tryz.prog W 0 (fun _=>true) true Tryz.f5.params.toList args.toList ds p:=hA0
  rw [show Tryz.f5.params=#[54,9] by kernel_rfl] at hA hval
  obtain ⟨v0,vs0,d0_,ds0,p0_,q0_,hargs,rfl,rfl,h0,r0⟩:=trodAll_cons hA
  obtain ⟨v1,vs1,d1_,ds1,p1_,q1_,rfl,rfl,rfl,h1,r1⟩:=trodAll_cons r0
  obtain ⟨rfl,rfl,rfl⟩:=trodAll_nil r1
  obtain rfl:args=#[v0,v1]:=by cases args;simp_all
  obtain ⟨rfl,rfl⟩:=trodVars_none hV
  have k0:=h0
  have lt0:∀ x∈p0_,x.block<W.heap.size:=by obtain ⟨m,hm⟩:=k0;exact DataW.trod_lt m _ _ _ hm
  have k1:=h1
  have lt1:∀ x∈p1_,x.block<W.heap.size:=by obtain ⟨m,hm⟩:=k1;exact DataW.trod_lt m _ _ _ hm
  obtain ⟨a0,l0,c0,rfl⟩:=okWide_slice kPlayerPlans54 (hval 0 54 _ rfl rfl)
  obtain ⟨f0,hf0⟩:=h0
  obtain ⟨b0,n0,d0,xs0,q0,ro0,hc0,hn0,hx0⟩:=Acq.open_row (k:=.u32) kPlayerPlans54 kPlayerPlans56 (by kernel_rfl) hf0
  cases q0
  obtain ⟨x1,rfl⟩:=okWide_string kPlayerPlans9 (hval 1 9 _ rfl rfl)
  obtain ⟨f1,hf1⟩:=h1
  obtain ⟨z1,e1,_,wf1⟩:=DataW.trod_string kPlayerPlans9 hf1
  obtain rfl:x1=z1:=by injection e1 with e1 _;injection e1
  obtain ⟨y1,rfl⟩:∃ y:Acq.Str,x1=Acq.bs y:=⟨x1.data.toList,(Acq.bs_of x1).symm⟩
  clear hA0 hval0
  refine Calls.mono (Ax.w_acequialaw29_PlayerPlans (l0:=xs0) (text1:=y1) W (⟨ro0,fun _ _ _=>by simp,hc0⟩:Acq.RS W [] _ _ _ _ _ _) (gkPlayerPlans hL hSh) (r0:=true) (Acq.p_PlayerPlans ⟨fun y hy=>Acq.u32ok_wf (hx0 y hy),by have:=ro0.len;omega⟩ (show y1.length≤9223372036854775807 by rw [Acq.bs_size] at wf1;exact wf1))) fun e W' he=>?_
  obtain ⟨v,N,⟨rfl,rfl⟩,he',hi⟩:=he
  have bel:=hi.below
  subst he'
  exact ⟨_,rfl,_,_,_,[],_,[],hW',trodAll_mk1 (shut_bool kPlayerPlans4 _),(trodAll_cons_mk (Below.trod laidPlayerPlans (by kernel_rfl) (of_decide_eq_true (by kernel_rfl)) k0 bel lt0) (trodAll_cons_mk (Below.trod laidPlayerPlans (by kernel_rfl) (of_decide_eq_true (by kernel_rfl)) k1 bel lt1) trodAll_mk0)),rfl,bel.frame _,fun h=>by cases h⟩
theorem playerPlans_row:Rows.PlayerPlansSaid :=
 OpenClaim.holds_of_wide 5 Tryz.f5 rfl rfl rfl rfl rfl rfl rfl ⟨rfl,rfl,rfl,rfl,rfl⟩ rfl rfl rfl rfl rfl (by kernel_rfl) Tryz.func5 jFPlayerPlans
  (of_decide_eq_true (by kernel_rfl)) (by unfold Func.isWrapper;first | (rw [if_pos (by decide +kernel)];kernel_rfl) | (rw [if_neg (by decide +kernel)];exact ⟨rfl,rfl⟩))
  (fun os started H enc _=>lifted_playerPlans os started H enc)
theorem playerPlans_holds:Rows.PlayerPlansCardSaid :=
 Claim7.holds_tied_plain_at .later [] [.data,.data,.data,.data,.sentinel,.sentinel,.sentinel,.pinned] true (true,"fd19057fe9e4215cef46eeb5084934125b9f08fb7c6838f8aac3e9dbf6d2ba38") true playerPlans_row (fun _ h=>by cases h) (by kernel_rfl) (fun _ h=>by cases h) playerPlans_row_tie rfl ⟨rfl,rfl⟩ (by kernel_rfl) rfl
  (fun f fn hf hfn=>by
   obtain rfl:f=5:=Option.some.inj ((show Tryz.prog.funcNamed "acequia/acequialaw29.PlayerPlans"=some 5 by kernel_rfl).symm.trans hf) |>.symm
   obtain rfl:fn=Tryz.f5:=(Option.some.inj (Tryz.func5.symm.trans hfn)).symm
   exact ⟨by kernel_rfl,fun j t ht=>by
    rw [show Tryz.f5.params=#[54,9] by kernel_rfl] at ht
    have hm:t∈[54,9]:=by simpa using Array.mem_of_getElem? ht
    have hall:([54,9].all fun u=>!Tryz.prog.wantsStandIn u)=true:=by kernel_rfl
    exact (show Tryz.prog.wantsStandIn t=false by simpa using List.all_eq_true.1 hall t hm)⟩)
  playerPlans_goes
end Go.Proofs.YtddknfpolkkbjaaGreatDoor
