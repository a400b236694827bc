/- SayBlank: the statement. -/
import Derived.Test.YtnppjbofdkokkaaGreatDoorCards
import Derived.Test.YtnppjbofdkokkaaGreatDoorTie
import Derived.Test.YtnppjbofdkokkaaGreatDoorA2
import Derived.SevenTiedAt
import Derived.Lay
import Derived.Test.YtnppjbofdkokkaaGreatDoorRows
import Derived.Test.YtnppjbofdkokkaaGreatDoorA3
import Derived.Test.YtnppjbofdkokkaaGreatDoorA4
import Derived.Test.YtnppjbofdkokkaaGreatDoorA1
import Derived.WalkKit
import Derived.ProofKit
import Derived.OpenShut
import Derived.ShutString
import Derived.ChangeOld
import Derived.Below
import Derived.Test.YtnppjbofdkokkaaGreatDoorA5
namespace Go.Proofs.YtnppjbofdkokkaaGreatDoor
open Go.ChangeShapes Go.WideShapes Go.ChangeAt Go.RowKit Go.Deep
set_option linter.unusedVariables false
theorem ownSayBlank : ownKnob Tryz.prog.godebug = none := by kernel_rfl
theorem laidSayBlank : laidOutB Tryz.prog = true := by kernel_rfl
theorem kSayBlank2 : Tryz.prog.underlying 2 = some (.int .i64) := by kernel_rfl
theorem kSayBlank22 : Tryz.prog.underlying 22 = some (.slice 58) := by kernel_rfl
theorem kSayBlank25 : Tryz.prog.underlying 25 = some (.slice 5) := by kernel_rfl
theorem kSayBlank3 : Tryz.prog.underlying 3 = some (.int .i64) := by kernel_rfl
theorem kSayBlank37 : Tryz.prog.underlying 37 = some (.slice 2) := by kernel_rfl
theorem kSayBlank38 : Tryz.prog.underlying 38 = some (.slice 4) := by kernel_rfl
theorem kSayBlank4 : Tryz.prog.underlying 4 = some .bool := by kernel_rfl
theorem kSayBlank5 : Tryz.prog.underlying 5 = some (.int .u8) := by kernel_rfl
theorem gPSayBlank : Tryz.prog.globalNamed "internal/strconv.uint64pow10" = some 2 := by kernel_rfl
theorem hPSayBlank : (Tryz.prog.globals[2]?).map (·.type) = some 184 := by kernel_rfl
theorem uPSayBlank : Tryz.prog.underlying 184 = some (.array 20 156) := by kernel_rfl
theorem ePSayBlank : Tryz.prog.underlying 156 = some (.int .u64) := by kernel_rfl
theorem cPSayBlank : Tryz.prog.cellsOf 156 = 1 := by kernel_rfl
theorem dPSayBlank : Tryz.prog.cellsOf 184 = 20 := by kernel_rfl
theorem tabSayBlank : (Rows.laid_internal_strconv_uint64pow10 : DataW Unit) = Lib.tabData .u64 Lib.pow10Tab := by kernel_rfl
theorem gSSayBlank : Tryz.prog.globalNamed "strconv.ErrSyntax" = some 6 := by kernel_rfl
theorem hSSayBlank : (Tryz.prog.globals[6]?).map (·.type) = some 90 := by kernel_rfl
theorem gRSayBlank : Tryz.prog.globalNamed "strconv.ErrRange" = some 7 := by kernel_rfl
theorem hRSayBlank : (Tryz.prog.globals[7]?).map (·.type) = some 90 := by kernel_rfl
theorem uSSayBlank : Tryz.prog.underlying 226 = some (.pointer 228) := by kernel_rfl
theorem ctSayBlank : Tryz.prog.cellsOf 228 = 1 := by kernel_rfl
theorem csSayBlank : Tryz.prog.cellsOf 9 = 1 := by kernel_rfl
theorem usSayBlank : Tryz.prog.underlying 9 = some .string := by kernel_rfl
theorem slSayBlank : "*" ++ "errors.errorString" = "*errors.errorString" := by decide
theorem rwSayBlank (u : TypeId) (h : Tryz.prog.typeName? 3 u = some "*errors.errorString") : u = 226 :=
 typeName_ptr_named (nm := "errors.errorString") (by rw [slSayBlank]; kernel_rfl) (by kernel_rfl) (by decide) u (by rw [slSayBlank]; exact h)
theorem gMSayBlank : Tryz.prog.globalNamed "internal/bytealg.MaxLen" = some 0 := by kernel_rfl
theorem gkSayBlank {W : World} (hL : laidMetH Tryz.prog Rows.sayBlankRow.laid W) (hS : W.ShapedOpen Tryz.prog) : Acq.GK Tryz.prog W [] := by
 rw [MakeChecks.laidMetH_plain _ _ _ (by kernel_rfl)] at hL
 have hK : laidMet Tryz.prog [("math/bits.deBruijn32tab", Rows.laid_math_bits_deBruijn32tab), ("math/bits.deBruijn64tab", Rows.laid_math_bits_deBruijn64tab), ("internal/strconv.uint64pow10", Rows.laid_internal_strconv_uint64pow10), ("unicode/utf8.acceptRanges", Rows.laid_unicode_utf8_acceptRanges), ("strconv.ErrRange", Rows.laid_strconv_ErrRange), ("strconv.ErrSyntax", Rows.laid_strconv_ErrSyntax), ("bytes.ErrTooLarge", Rows.laid_bytes_ErrTooLarge), ("unicode/utf8.first", Rows.laid_unicode_utf8_first)] W := hL
 have h1 := hK.tail.tail
 rw [tabSayBlank] at h1
 obtain ⟨_, _, vs, -⟩ := laid_sentinel (hK.tail.tail.tail.tail.tail) gSSayBlank hSSayBlank Tryz.underlying90 rwSayBlank uSSayBlank Tryz.underlying228 rfl rfl usSayBlank ctSayBlank csSayBlank
 obtain ⟨_, _, vr, -⟩ := laid_sentinel (hK.tail.tail.tail.tail) gRSayBlank hRSayBlank Tryz.underlying90 rwSayBlank uSSayBlank Tryz.underlying228 rfl rfl usSayBlank ctSayBlank csSayBlank
 exact ⟨Lib.tabIs_of_head gPSayBlank hPSayBlank uPSayBlank ePSayBlank cPSayBlank dPSayBlank h1, ⟨_, _, vs⟩, ⟨_, _, vr⟩, Acq.int_of_shaped (t := 3) hS gMSayBlank (of_decide_eq_true (by kernel_rfl)) (zero := #[.int .i64 0]) (by kernel_rfl) (by kernel_rfl) (by kernel_rfl) (by kernel_rfl) (by kernel_rfl), fun _ _ _ _ => by simp⟩
set_option maxRecDepth 100000 in
theorem lifted_sayBlank (os : Os) (started : os.Started) (H : Type) (enc : TypeId × Value → H) :
    ReturnsInHanded {} Tryz.checked os 4 .any (fun w args => (Rows.sayBlankSpec.pre enc Tryz.prog Tryz.f4 [] false w args ∧ laidMetH Tryz.prog Rows.sayBlankRow.laid w) ∧ sizedMet enc Tryz.prog Tryz.f4 (OpenSpec.ofChange Rows.sayBlankSpec) false w args)
      (Rows.sayBlankSpec.post enc Tryz.prog Tryz.f4 false true false false) := by
  refine Acq.handed_of_change (C := Tryz.checked) (X := fun w _ => laidMetH Tryz.prog Rows.sayBlankRow.laid w) (fun _ _ _ hh h => h.of_heap hh) ownSayBlank started (by kernel_rfl) Tryz.func4
    (ChangeSpec.witness_shaped (enc := enc) (C := Tryz.checked) (os := os) (X := fun w _ => laidMetH Tryz.prog Rows.sayBlankRow.laid w) false (World.laidAll Tryz.prog os Rows.sayBlankRow.laid) #[.agg #[.int .i64 0, .int .i64 0, .int .i64 0, .slice none 0 0], .slice none 0 0, .slice none 0 0, .slice none 0 0] 8 (World.laidAll_os _ _ _)
      (World.shaped_of_ZipB (by kernel_rfl) (by kernel_rfl)) (by kernel_rfl) (by kernel_rfl) (by kernel_rfl)
      (by rw [MakeChecks.laidMetH_plain _ _ _ (by kernel_rfl)]; exact laidMet_laidAll _ (by kernel_rfl) (by kernel_rfl))) ?_
  intro W base args ds gs before hval0 hW hL hSh
  have hval : ∀ (j : Nat) t v, Tryz.f4.params[j]? = some t → args[j]? = some v → Value.okWide Tryz.prog W .any base t v := hval0
  have hW' := hW
  obtain ⟨p, q, hA0, hV, rfl, hfz, hnd⟩ := hW
  have hA : DataW.TrodAll enc Tryz.prog W 0 (fun _ => true) true Tryz.f4.params.toList args.toList ds p := hA0
  rw [show Tryz.f4.params = #[24, 37, 38, 25] by kernel_rfl] at hA hval
  obtain ⟨v0, vs0, d0_, ds0, p0_, q0_, hargs, rfl, rfl, h0, r0⟩ := trodAll_cons hA
  obtain ⟨v1, vs1, d1_, ds1, p1_, q1_, rfl, rfl, rfl, h1, r1⟩ := trodAll_cons r0
  obtain ⟨v2, vs2, d2_, ds2, p2_, q2_, rfl, rfl, rfl, h2, r2⟩ := trodAll_cons r1
  obtain ⟨v3, vs3, d3_, ds3, p3_, q3_, rfl, rfl, rfl, h3, r3⟩ := trodAll_cons r2
  obtain ⟨rfl, rfl, rfl⟩ := trodAll_nil r3
  obtain rfl : args = #[v0, v1, v2, v3] := by cases args; simp_all
  obtain ⟨rfl, rfl⟩ := trodVars_none hV
  have k0 := h0
  have lt0 : ∀ x ∈ p0_, x.block < W.heap.size := by obtain ⟨m, hm⟩ := k0; exact DataW.trod_lt m _ _ _ hm
  have k1 := h1
  have lt1 : ∀ x ∈ p1_, x.block < W.heap.size := by obtain ⟨m, hm⟩ := k1; exact DataW.trod_lt m _ _ _ hm
  have k2 := h2
  have lt2 : ∀ x ∈ p2_, x.block < W.heap.size := by obtain ⟨m, hm⟩ := k2; exact DataW.trod_lt m _ _ _ hm
  have k3 := h3
  have lt3 : ∀ x ∈ p3_, x.block < W.heap.size := by obtain ⟨m, hm⟩ := k3; exact DataW.trod_lt m _ _ _ hm
  obtain ⟨v0_0, v1_0, v2_0, v3_0, y0_0, y1_0, y2_0, y3_0, m_0, rfl, _, _, t0_0, t1_0, t2_0, t3_0⟩ := Joins.open_agg4 Tryz.underlying24 (by kernel_rfl) (by kernel_rfl) (hval 0 24 _ rfl rfl) h0
  obtain ⟨z0_0, g0_0, _, w0_0⟩ := DataW.trod_int kSayBlank3 t0_0
  injection g0_0 with g0_0 _; subst g0_0
  obtain ⟨z1_0, g1_0, _, w1_0⟩ := DataW.trod_int kSayBlank3 t1_0
  injection g1_0 with g1_0 _; subst g1_0
  obtain ⟨z2_0, g2_0, _, w2_0⟩ := DataW.trod_int kSayBlank3 t2_0
  injection g2_0 with g2_0 _; subst g2_0
  obtain ⟨b0, n0, d0, al0, q0, ro0, hc0, hn0, hx0⟩ := Acq.open_arcs kSayBlank22 Tryz.underlying58 rfl (by kernel_rfl) (by kernel_rfl) kSayBlank3 kSayBlank3 kSayBlank2 t3_0
  cases q0
  obtain ⟨a1, l1, c1, rfl⟩ := okWide_slice kSayBlank37 (hval 1 37 _ rfl rfl)
  obtain ⟨f1, hf1⟩ := h1
  obtain ⟨b1, n1, d1, xs1, q1, ro1, hc1, hn1, hx1⟩ := Acq.open_row (k := .i64) kSayBlank37 kSayBlank2 (by kernel_rfl) hf1
  cases q1
  obtain ⟨a2, l2, c2, rfl⟩ := okWide_slice kSayBlank38 (hval 2 38 _ rfl rfl)
  obtain ⟨f2, hf2⟩ := h2
  obtain ⟨b2, n2, d2, xs2, q2, ro2, hc2, hn2⟩ := Acq.open_bools kSayBlank38 kSayBlank4 (by kernel_rfl) hf2
  cases q2
  obtain ⟨a3, l3, c3, rfl⟩ := okWide_slice kSayBlank25 (hval 3 25 _ rfl rfl)
  obtain ⟨f3, hf3⟩ := h3
  obtain ⟨b3, n3, d3, xs3, q3, ro3, hc3, hn3, hx3⟩ := Acq.open_row (k := .u8) kSayBlank25 kSayBlank5 (by kernel_rfl) hf3
  cases q3
  clear hA0 hval0
  refine Calls.mono (Ax.w_acequialaw28_SayBlank (n0 := (Acq.Net.mk z0_0 z1_0 z2_0 al0)) (l1 := xs1) (marks2 := xs2) (how3 := xs3) W (⟨ro0, fun _ _ _ => by simp, hc0⟩ : Acq.RS W [] _ _ _ _ _ _) (⟨ro1, fun _ _ _ => by simp, hc1⟩ : Acq.RS W [] _ _ _ _ _ _) (⟨ro2, fun _ _ _ => by simp, hc2⟩ : Acq.RS W [] _ _ _ _ _ _) (⟨ro3, fun _ _ _ => by simp, hc3⟩ : Acq.RS W [] _ _ _ _ _ _) (gkSayBlank hL hSh) (r0 := true) (Acq.p_SayBlank ⟨Acq.i64ok_wf w0_0, Acq.i64ok_wf w1_0, Acq.i64ok_wf w2_0, fun a ha => ⟨(hx0 a ha).1, (hx0 a ha).2.1, (hx0 a ha).2.2⟩, by show al0.length ≤ _; have := ro0.len; omega⟩ ⟨fun y hy => Acq.i64ok_wf (hx1 y hy), by have := ro1.len; omega⟩ (show xs2.length ≤ 9223372036854775807 by have := ro2.len; omega) ⟨fun y hy => Acq.u8ok_wf (hx3 y hy), by have := ro3.len; omega⟩)) fun e W' he => ?_
  obtain ⟨v, N, ⟨rfl, rfl⟩, he', hi⟩ := he
  have bel := hi.below
  subst he'
  exact ⟨_, rfl, _, _, _, [], _, [], hW', trodAll_mk1 (shut_bool kSayBlank4 _), (trodAll_cons_mk (Below.trod laidSayBlank (by kernel_rfl) (of_decide_eq_true (by kernel_rfl)) k0 bel lt0) (trodAll_cons_mk (Below.trod laidSayBlank (by kernel_rfl) (of_decide_eq_true (by kernel_rfl)) k1 bel lt1) (trodAll_cons_mk (Below.trod laidSayBlank (by kernel_rfl) (of_decide_eq_true (by kernel_rfl)) k2 bel lt2) (trodAll_cons_mk (Below.trod laidSayBlank (by kernel_rfl) (of_decide_eq_true (by kernel_rfl)) k3 bel lt3) trodAll_mk0)))), rfl, bel.frame _, fun h => by cases h⟩
theorem sayBlank_row : Rows.SayBlankSaid :=
 OpenClaim.holds_of_wide 4 Tryz.f4 rfl rfl rfl rfl rfl rfl rfl ⟨rfl, rfl, rfl, rfl, rfl⟩ rfl rfl rfl rfl rfl (by kernel_rfl) Tryz.func4 jFSayBlank
  (of_decide_eq_true (by kernel_rfl)) (by unfold Func.isWrapper; first | (rw [if_pos (by decide +kernel)]; kernel_rfl) | (rw [if_neg (by decide +kernel)]; exact ⟨rfl, rfl⟩))
  (fun os started H enc _ => lifted_sayBlank os started H enc)
theorem sayBlank_holds : Rows.SayBlankCardSaid :=
 Claim7.holds_tied_plain_at .later [] [.data, .data, .data, .data, .sentinel, .sentinel, .sentinel, .pinned] true (true, "db1a12709f6db80646dfb898193eb2153673c0ca52aa4fc7f223a83995abd7cc") true sayBlank_row (fun _ h => by cases h) (by kernel_rfl) (fun _ h => by cases h) sayBlank_row_tie rfl ⟨rfl, rfl⟩ (by kernel_rfl) rfl
  (fun f fn hf hfn => by
   obtain rfl : f = 4 := Option.some.inj ((show Tryz.prog.funcNamed "acequia/acequialaw28.SayBlank" = some 4 by kernel_rfl).symm.trans hf) |>.symm
   obtain rfl : fn = Tryz.f4 := (Option.some.inj (Tryz.func4.symm.trans hfn)).symm
   exact ⟨by kernel_rfl, fun j t ht => by
    rw [show Tryz.f4.params = #[24, 37, 38, 25] by kernel_rfl] at ht
    have hm : t ∈ [24, 37, 38, 25] := by simpa using Array.mem_of_getElem? ht
    have hall : ([24, 37, 38, 25].all fun u => !Tryz.prog.wantsStandIn u) = true := by kernel_rfl
    exact (show Tryz.prog.wantsStandIn t = false by simpa using List.all_eq_true.1 hall t hm)⟩)
  (by kernel_rfl)
end Go.Proofs.YtnppjbofdkokkaaGreatDoor
