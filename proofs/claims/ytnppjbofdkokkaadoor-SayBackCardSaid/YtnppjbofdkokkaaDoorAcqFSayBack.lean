/- SayBack: the statement. -/
import Derived.Test.YtnppjbofdkokkaaDoorCards
import Derived.Test.YtnppjbofdkokkaaDoorTie
import Derived.Test.YtnppjbofdkokkaaDoorA2
import Derived.SevenTiedAt
import Derived.Lay
import Derived.Test.YtnppjbofdkokkaaDoorRows
import Derived.Test.YtnppjbofdkokkaaDoorA3
import Derived.Test.YtnppjbofdkokkaaDoorA1
import Derived.WalkKit
import Derived.ProofKit
import Derived.OpenShut
import Derived.ShutString
import Derived.ChangeOld
import Derived.Below
import Derived.Test.YtnppjbofdkokkaaDoorA4
namespace Go.Proofs.YtnppjbofdkokkaaDoor
open Go.ChangeShapes Go.WideShapes Go.ChangeAt Go.RowKit Go.Deep
set_option linter.unusedVariables false
theorem ownSayBack : ownKnob Tryd.prog.godebug = none := by kernel_rfl
theorem laidSayBack : laidOutB Tryd.prog = true := by kernel_rfl
theorem kSayBack2 : Tryd.prog.underlying 2 = some (.int .i64) := by kernel_rfl
theorem kSayBack22 : Tryd.prog.underlying 22 = some (.slice 45) := by kernel_rfl
theorem kSayBack25 : Tryd.prog.underlying 25 = some (.slice 2) := by kernel_rfl
theorem kSayBack26 : Tryd.prog.underlying 26 = some (.slice 4) := by kernel_rfl
theorem kSayBack27 : Tryd.prog.underlying 27 = some (.slice 5) := by kernel_rfl
theorem kSayBack3 : Tryd.prog.underlying 3 = some (.int .i64) := by kernel_rfl
theorem kSayBack4 : Tryd.prog.underlying 4 = some .bool := by kernel_rfl
theorem kSayBack5 : Tryd.prog.underlying 5 = some (.int .u8) := by kernel_rfl
theorem gPSayBack : Tryd.prog.globalNamed "internal/strconv.uint64pow10" = some 1 := by kernel_rfl
theorem hPSayBack : (Tryd.prog.globals[1]?).map (·.type) = some 118 := by kernel_rfl
theorem uPSayBack : Tryd.prog.underlying 118 = some (.array 20 102) := by kernel_rfl
theorem ePSayBack : Tryd.prog.underlying 102 = some (.int .u64) := by kernel_rfl
theorem cPSayBack : Tryd.prog.cellsOf 102 = 1 := by kernel_rfl
theorem dPSayBack : Tryd.prog.cellsOf 118 = 20 := by kernel_rfl
theorem tabSayBack : (Rows.laid_internal_strconv_uint64pow10 : DataW Unit) = Lib.tabData .u64 Lib.pow10Tab := by kernel_rfl
theorem gSSayBack : Tryd.prog.globalNamed "strconv.ErrSyntax" = some 5 := by kernel_rfl
theorem hSSayBack : (Tryd.prog.globals[5]?).map (·.type) = some 54 := by kernel_rfl
theorem gRSayBack : Tryd.prog.globalNamed "strconv.ErrRange" = some 6 := by kernel_rfl
theorem hRSayBack : (Tryd.prog.globals[6]?).map (·.type) = some 54 := by kernel_rfl
theorem uSSayBack : Tryd.prog.underlying 149 = some (.pointer 151) := by kernel_rfl
theorem ctSayBack : Tryd.prog.cellsOf 151 = 1 := by kernel_rfl
theorem csSayBack : Tryd.prog.cellsOf 9 = 1 := by kernel_rfl
theorem usSayBack : Tryd.prog.underlying 9 = some .string := by kernel_rfl
theorem slSayBack : "*" ++ "errors.errorString" = "*errors.errorString" := by decide
theorem rwSayBack (u : TypeId) (h : Tryd.prog.typeName? 3 u = some "*errors.errorString") : u = 149 :=
 typeName_ptr_named (nm := "errors.errorString") (by rw [slSayBack]; kernel_rfl) (by kernel_rfl) (by decide) u (by rw [slSayBack]; exact h)
theorem gMSayBack : Tryd.prog.globalNamed "internal/bytealg.MaxLen" = some 2 := by kernel_rfl
theorem gkSayBack {W : World} (hL : laidMetH Tryd.prog Rows.sayBackRow.laid W) (hS : W.ShapedOpen Tryd.prog) : Acq.GK Tryd.prog W [] := by
 rw [MakeChecks.laidMetH_plain _ _ _ (by kernel_rfl)] at hL
 have hK : laidMet Tryd.prog [("math/bits.deBruijn32tab", Rows.laid_math_bits_deBruijn32tab), ("math/bits.deBruijn64tab", Rows.laid_math_bits_deBruijn64tab), ("internal/strconv.uint64pow10", Rows.laid_internal_strconv_uint64pow10), ("unicode/utf8.acceptRanges", Rows.laid_unicode_utf8_acceptRanges), ("strconv.ErrRange", Rows.laid_strconv_ErrRange), ("strconv.ErrSyntax", Rows.laid_strconv_ErrSyntax), ("bytes.ErrTooLarge", Rows.laid_bytes_ErrTooLarge), ("unicode/utf8.first", Rows.laid_unicode_utf8_first)] W := hL
 have h1 := hK.tail.tail
 rw [tabSayBack] at h1
 obtain ⟨_, _, vs, -⟩ := laid_sentinel (hK.tail.tail.tail.tail.tail) gSSayBack hSSayBack Tryd.underlying54 rwSayBack uSSayBack Tryd.underlying151 rfl rfl usSayBack ctSayBack csSayBack
 obtain ⟨_, _, vr, -⟩ := laid_sentinel (hK.tail.tail.tail.tail) gRSayBack hRSayBack Tryd.underlying54 rwSayBack uSSayBack Tryd.underlying151 rfl rfl usSayBack ctSayBack csSayBack
 exact ⟨Lib.tabIs_of_head gPSayBack hPSayBack uPSayBack ePSayBack cPSayBack dPSayBack h1, ⟨_, _, vs⟩, ⟨_, _, vr⟩, Acq.int_of_shaped (t := 3) hS gMSayBack (of_decide_eq_true (by kernel_rfl)) (zero := #[.int .i64 0]) (by kernel_rfl) (by kernel_rfl) (by kernel_rfl) (by kernel_rfl) (by kernel_rfl), fun _ _ _ _ => by simp⟩
set_option maxRecDepth 100000 in
theorem lifted_sayBack (os : Os) (started : os.Started) (H : Type) (enc : TypeId × Value → H) :
    ReturnsInHanded {} Tryd.checked os 3 .any (fun w args => (Rows.sayBackSpec.pre enc Tryd.prog Tryd.f3 [] false w args ∧ laidMetH Tryd.prog Rows.sayBackRow.laid w) ∧ sizedMet enc Tryd.prog Tryd.f3 (OpenSpec.ofChange Rows.sayBackSpec) false w args)
      (Rows.sayBackSpec.post enc Tryd.prog Tryd.f3 false true false false) := by
  refine Acq.handed_of_change (C := Tryd.checked) (X := fun w _ => laidMetH Tryd.prog Rows.sayBackRow.laid w) (fun _ _ _ hh h => h.of_heap hh) ownSayBack started (by kernel_rfl) Tryd.func3
    (ChangeSpec.witness_shaped (enc := enc) (C := Tryd.checked) (os := os) (X := fun w _ => laidMetH Tryd.prog Rows.sayBackRow.laid w) false (World.laidAll Tryd.prog os Rows.sayBackRow.laid) #[.agg #[.int .i64 0, .int .i64 0, .int .i64 0, .slice none 0 0], .slice none 0 0, .slice none 0 0, .slice none 0 0] 8 (World.laidAll_os _ _ _)
      (World.shaped_of_ZipB (by kernel_rfl) (by kernel_rfl)) (by kernel_rfl) (by kernel_rfl) (by kernel_rfl)
      (by rw [MakeChecks.laidMetH_plain _ _ _ (by kernel_rfl)]; exact laidMet_laidAll _ (by kernel_rfl) (by kernel_rfl))) ?_
  intro W base args ds gs before hval0 hW hL hSh
  have hval : ∀ (j : Nat) t v, Tryd.f3.params[j]? = some t → args[j]? = some v → Value.okWide Tryd.prog W .any base t v := hval0
  have hW' := hW
  obtain ⟨p, q, hA0, hV, rfl, hfz, hnd⟩ := hW
  have hA : DataW.TrodAll enc Tryd.prog W 0 (fun _ => true) true Tryd.f3.params.toList args.toList ds p := hA0
  rw [show Tryd.f3.params = #[24, 25, 26, 27] by kernel_rfl] at hA hval
  obtain ⟨v0, vs0, d0_, ds0, p0_, q0_, hargs, rfl, rfl, h0, r0⟩ := trodAll_cons hA
  obtain ⟨v1, vs1, d1_, ds1, p1_, q1_, rfl, rfl, rfl, h1, r1⟩ := trodAll_cons r0
  obtain ⟨v2, vs2, d2_, ds2, p2_, q2_, rfl, rfl, rfl, h2, r2⟩ := trodAll_cons r1
  obtain ⟨v3, vs3, d3_, ds3, p3_, q3_, rfl, rfl, rfl, h3, r3⟩ := trodAll_cons r2
  obtain ⟨rfl, rfl, rfl⟩ := trodAll_nil r3
  obtain rfl : args = #[v0, v1, v2, v3] := by cases args; simp_all
  obtain ⟨rfl, rfl⟩ := trodVars_none hV
  have k0 := h0
  have lt0 : ∀ x ∈ p0_, x.block < W.heap.size := by obtain ⟨m, hm⟩ := k0; exact DataW.trod_lt m _ _ _ hm
  have k1 := h1
  have lt1 : ∀ x ∈ p1_, x.block < W.heap.size := by obtain ⟨m, hm⟩ := k1; exact DataW.trod_lt m _ _ _ hm
  have k2 := h2
  have lt2 : ∀ x ∈ p2_, x.block < W.heap.size := by obtain ⟨m, hm⟩ := k2; exact DataW.trod_lt m _ _ _ hm
  have k3 := h3
  have lt3 : ∀ x ∈ p3_, x.block < W.heap.size := by obtain ⟨m, hm⟩ := k3; exact DataW.trod_lt m _ _ _ hm
  obtain ⟨v0_0, v1_0, v2_0, v3_0, y0_0, y1_0, y2_0, y3_0, m_0, rfl, _, _, t0_0, t1_0, t2_0, t3_0⟩ := Joins.open_agg4 Tryd.underlying24 (by kernel_rfl) (by kernel_rfl) (hval 0 24 _ rfl rfl) h0
  obtain ⟨z0_0, g0_0, _, w0_0⟩ := DataW.trod_int kSayBack3 t0_0
  injection g0_0 with g0_0 _; subst g0_0
  obtain ⟨z1_0, g1_0, _, w1_0⟩ := DataW.trod_int kSayBack3 t1_0
  injection g1_0 with g1_0 _; subst g1_0
  obtain ⟨z2_0, g2_0, _, w2_0⟩ := DataW.trod_int kSayBack3 t2_0
  injection g2_0 with g2_0 _; subst g2_0
  obtain ⟨b0, n0, d0, al0, q0, ro0, hc0, hn0, hx0⟩ := Acq.open_arcs kSayBack22 Tryd.underlying45 rfl (by kernel_rfl) (by kernel_rfl) kSayBack3 kSayBack3 kSayBack2 t3_0
  cases q0
  obtain ⟨a1, l1, c1, rfl⟩ := okWide_slice kSayBack25 (hval 1 25 _ rfl rfl)
  obtain ⟨f1, hf1⟩ := h1
  obtain ⟨b1, n1, d1, xs1, q1, ro1, hc1, hn1, hx1⟩ := Acq.open_row (k := .i64) kSayBack25 kSayBack2 (by kernel_rfl) hf1
  cases q1
  obtain ⟨a2, l2, c2, rfl⟩ := okWide_slice kSayBack26 (hval 2 26 _ rfl rfl)
  obtain ⟨f2, hf2⟩ := h2
  obtain ⟨b2, n2, d2, xs2, q2, ro2, hc2, hn2⟩ := Acq.open_bools kSayBack26 kSayBack4 (by kernel_rfl) hf2
  cases q2
  obtain ⟨a3, l3, c3, rfl⟩ := okWide_slice kSayBack27 (hval 3 27 _ rfl rfl)
  obtain ⟨f3, hf3⟩ := h3
  obtain ⟨b3, n3, d3, xs3, q3, ro3, hc3, hn3, hx3⟩ := Acq.open_row (k := .u8) kSayBack27 kSayBack5 (by kernel_rfl) hf3
  cases q3
  clear hA0 hval0
  refine Calls.mono (Ax.w_acequialaw28_SayBack (n0 := (Acq.Net.mk z0_0 z1_0 z2_0 al0)) (l1 := xs1) (marks2 := xs2) (b3 := xs3) W (⟨ro0, fun _ _ _ => by simp, hc0⟩ : Acq.RS W [] _ _ _ _ _ _) (⟨ro1, fun _ _ _ => by simp, hc1⟩ : Acq.RS W [] _ _ _ _ _ _) (⟨ro2, fun _ _ _ => by simp, hc2⟩ : Acq.RS W [] _ _ _ _ _ _) (⟨ro3, fun _ _ _ => by simp, hc3⟩ : Acq.RS W [] _ _ _ _ _ _) (gkSayBack hL hSh) (r0 := true) (Acq.p_SayBack ⟨Acq.i64ok_wf w0_0, Acq.i64ok_wf w1_0, Acq.i64ok_wf w2_0, fun a ha => ⟨(hx0 a ha).1, (hx0 a ha).2.1, (hx0 a ha).2.2⟩, by show al0.length ≤ _; have := ro0.len; omega⟩ ⟨fun y hy => Acq.i64ok_wf (hx1 y hy), by have := ro1.len; omega⟩ (show xs2.length ≤ 9223372036854775807 by have := ro2.len; omega) ⟨fun y hy => Acq.u8ok_wf (hx3 y hy), by have := ro3.len; omega⟩)) fun e W' he => ?_
  obtain ⟨v, N, ⟨rfl, rfl⟩, he', hi⟩ := he
  have bel := hi.below
  subst he'
  exact ⟨_, rfl, _, _, _, [], _, [], hW', trodAll_mk1 (shut_bool kSayBack4 _), (trodAll_cons_mk (Below.trod laidSayBack (by kernel_rfl) (of_decide_eq_true (by kernel_rfl)) k0 bel lt0) (trodAll_cons_mk (Below.trod laidSayBack (by kernel_rfl) (of_decide_eq_true (by kernel_rfl)) k1 bel lt1) (trodAll_cons_mk (Below.trod laidSayBack (by kernel_rfl) (of_decide_eq_true (by kernel_rfl)) k2 bel lt2) (trodAll_cons_mk (Below.trod laidSayBack (by kernel_rfl) (of_decide_eq_true (by kernel_rfl)) k3 bel lt3) trodAll_mk0)))), rfl, bel.frame _, fun h => by cases h⟩
theorem sayBack_row : Rows.SayBackSaid :=
 OpenClaim.holds_of_wide 3 Tryd.f3 rfl rfl rfl rfl rfl rfl rfl ⟨rfl, rfl, rfl, rfl, rfl⟩ rfl rfl rfl rfl rfl (by kernel_rfl) Tryd.func3 jFSayBack
  (of_decide_eq_true (by kernel_rfl)) (by unfold Func.isWrapper; first | (rw [if_pos (by decide +kernel)]; kernel_rfl) | (rw [if_neg (by decide +kernel)]; exact ⟨rfl, rfl⟩))
  (fun os started H enc _ => lifted_sayBack os started H enc)
theorem sayBack_holds : Rows.SayBackCardSaid :=
 Claim7.holds_tied_plain_at .later [] [.data, .data, .data, .data, .sentinel, .sentinel, .sentinel, .pinned] true (true, "a84c89f945f6132e2834334f71e063a84ad9e646cf941bf9d15873fec7717c7b") true sayBack_row (fun _ h => by cases h) (by kernel_rfl) (fun _ h => by cases h) sayBack_row_tie rfl ⟨rfl, rfl⟩ (by kernel_rfl) rfl
  (fun f fn hf hfn => by
   obtain rfl : f = 3 := Option.some.inj ((show Tryd.prog.funcNamed "acequia/acequialaw28.SayBack" = some 3 by kernel_rfl).symm.trans hf) |>.symm
   obtain rfl : fn = Tryd.f3 := (Option.some.inj (Tryd.func3.symm.trans hfn)).symm
   exact ⟨by kernel_rfl, fun j t ht => by
    rw [show Tryd.f3.params = #[24, 25, 26, 27] by kernel_rfl] at ht
    have hm : t ∈ [24, 25, 26, 27] := by simpa using Array.mem_of_getElem? ht
    have hall : ([24, 25, 26, 27].all fun u => !Tryd.prog.wantsStandIn u) = true := by kernel_rfl
    exact (show Tryd.prog.wantsStandIn t = false by simpa using List.all_eq_true.1 hall t hm)⟩)
  (by kernel_rfl)
end Go.Proofs.YtnppjbofdkokkaaDoor
