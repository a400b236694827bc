/- DimacsSpoilt: the statement. -/
import Derived.Test.YtnppjbofdkokkaaGreatDoorCards
import Derived.Test.YtnppjbofdkokkaaGreatDoorTie
import Derived.Test.YtnppjbofdkokkaaGreatDoorA2
import Derived.SevenTiedAt
import Derived.Lay
import Derived.Test.YtnppjbofdkokkaaGreatDoorRows
import Derived.Test.YtnppjbofdkokkaaGreatDoorA3
import Derived.Test.YtnppjbofdkokkaaGreatDoorA4
import Derived.Test.YtnppjbofdkokkaaGreatDoorA1
import Derived.WalkKit
import Derived.ProofKit
import Derived.OpenShut
import Derived.ShutString
import Derived.ChangeOld
import Derived.Below
import Derived.Test.YtnppjbofdkokkaaGreatDoorA5
namespace Go.Proofs.YtnppjbofdkokkaaGreatDoor
open Go.ChangeShapes Go.WideShapes Go.ChangeAt Go.RowKit Go.Deep
set_option linter.unusedVariables false
theorem ownDimacsSpoilt : ownKnob Tryz.prog.godebug = none := by kernel_rfl
theorem laidDimacsSpoilt : laidOutB Tryz.prog = true := by kernel_rfl
theorem kDimacsSpoilt2 : Tryz.prog.underlying 2 = some (.int .i64) := by kernel_rfl
theorem kDimacsSpoilt22 : Tryz.prog.underlying 22 = some (.slice 58) := by kernel_rfl
theorem kDimacsSpoilt3 : Tryz.prog.underlying 3 = some (.int .i64) := by kernel_rfl
theorem kDimacsSpoilt4 : Tryz.prog.underlying 4 = some .bool := by kernel_rfl
theorem kDimacsSpoilt5 : Tryz.prog.underlying 5 = some (.int .u8) := by kernel_rfl
theorem gPDimacsSpoilt : Tryz.prog.globalNamed "internal/strconv.uint64pow10" = some 2 := by kernel_rfl
theorem hPDimacsSpoilt : (Tryz.prog.globals[2]?).map (·.type) = some 184 := by kernel_rfl
theorem uPDimacsSpoilt : Tryz.prog.underlying 184 = some (.array 20 156) := by kernel_rfl
theorem ePDimacsSpoilt : Tryz.prog.underlying 156 = some (.int .u64) := by kernel_rfl
theorem cPDimacsSpoilt : Tryz.prog.cellsOf 156 = 1 := by kernel_rfl
theorem dPDimacsSpoilt : Tryz.prog.cellsOf 184 = 20 := by kernel_rfl
theorem tabDimacsSpoilt : (Rows.laid_internal_strconv_uint64pow10 : DataW Unit) = Lib.tabData .u64 Lib.pow10Tab := by kernel_rfl
theorem gSDimacsSpoilt : Tryz.prog.globalNamed "strconv.ErrSyntax" = some 6 := by kernel_rfl
theorem hSDimacsSpoilt : (Tryz.prog.globals[6]?).map (·.type) = some 90 := by kernel_rfl
theorem gRDimacsSpoilt : Tryz.prog.globalNamed "strconv.ErrRange" = some 7 := by kernel_rfl
theorem hRDimacsSpoilt : (Tryz.prog.globals[7]?).map (·.type) = some 90 := by kernel_rfl
theorem uSDimacsSpoilt : Tryz.prog.underlying 226 = some (.pointer 228) := by kernel_rfl
theorem ctDimacsSpoilt : Tryz.prog.cellsOf 228 = 1 := by kernel_rfl
theorem csDimacsSpoilt : Tryz.prog.cellsOf 9 = 1 := by kernel_rfl
theorem usDimacsSpoilt : Tryz.prog.underlying 9 = some .string := by kernel_rfl
theorem slDimacsSpoilt : "*" ++ "errors.errorString" = "*errors.errorString" := by decide
theorem rwDimacsSpoilt (u : TypeId) (h : Tryz.prog.typeName? 3 u = some "*errors.errorString") : u = 226 :=
 typeName_ptr_named (nm := "errors.errorString") (by rw [slDimacsSpoilt]; kernel_rfl) (by kernel_rfl) (by decide) u (by rw [slDimacsSpoilt]; exact h)
theorem gMDimacsSpoilt : Tryz.prog.globalNamed "internal/bytealg.MaxLen" = some 0 := by kernel_rfl
theorem gkDimacsSpoilt {W : World} (hL : laidMetH Tryz.prog Rows.dimacsSpoiltRow.laid W) (hS : W.ShapedOpen Tryz.prog) : Acq.GK Tryz.prog W [] := by
 rw [MakeChecks.laidMetH_plain _ _ _ (by kernel_rfl)] at hL
 have hK : laidMet Tryz.prog [("math/bits.deBruijn32tab", Rows.laid_math_bits_deBruijn32tab), ("math/bits.deBruijn64tab", Rows.laid_math_bits_deBruijn64tab), ("internal/strconv.uint64pow10", Rows.laid_internal_strconv_uint64pow10), ("unicode/utf8.acceptRanges", Rows.laid_unicode_utf8_acceptRanges), ("strconv.ErrRange", Rows.laid_strconv_ErrRange), ("strconv.ErrSyntax", Rows.laid_strconv_ErrSyntax), ("bytes.ErrTooLarge", Rows.laid_bytes_ErrTooLarge), ("unicode.CaseRanges", Rows.laid_unicode_CaseRanges), ("unicode/utf8.first", Rows.laid_unicode_utf8_first)] W := hL
 have h1 := hK.tail.tail
 rw [tabDimacsSpoilt] at h1
 obtain ⟨_, _, vs, -⟩ := laid_sentinel (hK.tail.tail.tail.tail.tail) gSDimacsSpoilt hSDimacsSpoilt Tryz.underlying90 rwDimacsSpoilt uSDimacsSpoilt Tryz.underlying228 rfl rfl usDimacsSpoilt ctDimacsSpoilt csDimacsSpoilt
 obtain ⟨_, _, vr, -⟩ := laid_sentinel (hK.tail.tail.tail.tail) gRDimacsSpoilt hRDimacsSpoilt Tryz.underlying90 rwDimacsSpoilt uSDimacsSpoilt Tryz.underlying228 rfl rfl usDimacsSpoilt ctDimacsSpoilt csDimacsSpoilt
 exact ⟨Lib.tabIs_of_head gPDimacsSpoilt hPDimacsSpoilt uPDimacsSpoilt ePDimacsSpoilt cPDimacsSpoilt dPDimacsSpoilt h1, ⟨_, _, vs⟩, ⟨_, _, vr⟩, Acq.int_of_shaped (t := 3) hS gMDimacsSpoilt (of_decide_eq_true (by kernel_rfl)) (zero := #[.int .i64 0]) (by kernel_rfl) (by kernel_rfl) (by kernel_rfl) (by kernel_rfl) (by kernel_rfl), fun _ _ _ _ => by simp⟩
set_option maxRecDepth 100000 in
theorem lifted_dimacsSpoilt (os : Os) (started : os.Started) (H : Type) (enc : TypeId × Value → H) :
    ReturnsInHanded {} Tryz.checked os 8 .any (fun w args => (Rows.dimacsSpoiltSpec.pre enc Tryz.prog Tryz.f8 [] false w args ∧ laidMetH Tryz.prog Rows.dimacsSpoiltRow.laid w) ∧ sizedMet enc Tryz.prog Tryz.f8 (OpenSpec.ofChange Rows.dimacsSpoiltSpec) false w args)
      (Rows.dimacsSpoiltSpec.post enc Tryz.prog Tryz.f8 false true false false) := by
  refine Acq.handed_of_change (C := Tryz.checked) (X := fun w _ => laidMetH Tryz.prog Rows.dimacsSpoiltRow.laid w) (fun _ _ _ hh h => h.of_heap hh) ownDimacsSpoilt started (by kernel_rfl) Tryz.func8
    (ChangeSpec.witness_shaped (enc := enc) (C := Tryz.checked) (os := os) (X := fun w _ => laidMetH Tryz.prog Rows.dimacsSpoiltRow.laid w) false (World.laidAll Tryz.prog os Rows.dimacsSpoiltRow.laid) #[.agg #[.int .i64 0, .int .i64 0, .int .i64 0, .slice none 0 0], .int .u8 0] 8 (World.laidAll_os _ _ _)
      (World.shaped_of_ZipB (by kernel_rfl) (by kernel_rfl)) (by kernel_rfl) (by kernel_rfl) (by kernel_rfl)
      (by rw [MakeChecks.laidMetH_plain _ _ _ (by kernel_rfl)]; exact laidMet_laidAll _ (by kernel_rfl) (by kernel_rfl))) ?_
  intro W base args ds gs before hval0 hW hL hSh
  have hval : ∀ (j : Nat) t v, Tryz.f8.params[j]? = some t → args[j]? = some v → Value.okWide Tryz.prog W .any base t v := hval0
  have hW' := hW
  obtain ⟨p, q, hA0, hV, rfl, hfz, hnd⟩ := hW
  have hA : DataW.TrodAll enc Tryz.prog W 0 (fun _ => true) true Tryz.f8.params.toList args.toList ds p := hA0
  rw [show Tryz.f8.params = #[24, 5] by kernel_rfl] at hA hval
  obtain ⟨v0, vs0, d0_, ds0, p0_, q0_, hargs, rfl, rfl, h0, r0⟩ := trodAll_cons hA
  obtain ⟨v1, vs1, d1_, ds1, p1_, q1_, rfl, rfl, rfl, h1, r1⟩ := trodAll_cons r0
  obtain ⟨rfl, rfl, rfl⟩ := trodAll_nil r1
  obtain rfl : args = #[v0, v1] := by cases args; simp_all
  obtain ⟨rfl, rfl⟩ := trodVars_none hV
  have k0 := h0
  have lt0 : ∀ x ∈ p0_, x.block < W.heap.size := by obtain ⟨m, hm⟩ := k0; exact DataW.trod_lt m _ _ _ hm
  have k1 := h1
  have lt1 : ∀ x ∈ p1_, x.block < W.heap.size := by obtain ⟨m, hm⟩ := k1; exact DataW.trod_lt m _ _ _ hm
  obtain ⟨v0_0, v1_0, v2_0, v3_0, y0_0, y1_0, y2_0, y3_0, m_0, rfl, _, _, t0_0, t1_0, t2_0, t3_0⟩ := Joins.open_agg4 Tryz.underlying24 (by kernel_rfl) (by kernel_rfl) (hval 0 24 _ rfl rfl) h0
  obtain ⟨z0_0, g0_0, _, w0_0⟩ := DataW.trod_int kDimacsSpoilt3 t0_0
  injection g0_0 with g0_0 _; subst g0_0
  obtain ⟨z1_0, g1_0, _, w1_0⟩ := DataW.trod_int kDimacsSpoilt3 t1_0
  injection g1_0 with g1_0 _; subst g1_0
  obtain ⟨z2_0, g2_0, _, w2_0⟩ := DataW.trod_int kDimacsSpoilt3 t2_0
  injection g2_0 with g2_0 _; subst g2_0
  obtain ⟨b0, n0, d0, al0, q0, ro0, hc0, hn0, hx0⟩ := Acq.open_arcs kDimacsSpoilt22 Tryz.underlying58 rfl (by kernel_rfl) (by kernel_rfl) kDimacsSpoilt3 kDimacsSpoilt3 kDimacsSpoilt2 t3_0
  cases q0
  obtain ⟨x1, rfl⟩ := okWide_int kDimacsSpoilt5 (hval 1 5 _ rfl rfl)
  obtain ⟨f1, hf1⟩ := h1
  obtain ⟨z1, e1, _, wf1⟩ := DataW.trod_int kDimacsSpoilt5 hf1
  obtain rfl : x1 = z1 := by injection e1 with e1 _; injection e1
  clear hA0 hval0
  refine Calls.mono (Ax.w_acequialaw27_DimacsSpoilt (n0 := (Acq.Net.mk z0_0 z1_0 z2_0 al0)) (at1 := x1) W (⟨ro0, fun _ _ _ => by simp, hc0⟩ : Acq.RS W [] _ _ _ _ _ _) (gkDimacsSpoilt hL hSh) (r0 := true) (Acq.p_DimacsSpoilt ⟨Acq.i64ok_wf w0_0, Acq.i64ok_wf w1_0, Acq.i64ok_wf w2_0, fun a ha => ⟨(hx0 a ha).1, (hx0 a ha).2.1, (hx0 a ha).2.2⟩, by show al0.length ≤ _; have := ro0.len; omega⟩ (Acq.u8ok_wf wf1))) fun e W' he => ?_
  obtain ⟨v, N, ⟨rfl, rfl⟩, he', hi⟩ := he
  have bel := hi.below
  subst he'
  exact ⟨_, rfl, _, _, _, [], _, [], hW', trodAll_mk1 (shut_bool kDimacsSpoilt4 _), (trodAll_cons_mk (Below.trod laidDimacsSpoilt (by kernel_rfl) (of_decide_eq_true (by kernel_rfl)) k0 bel lt0) (trodAll_cons_mk (Below.trod laidDimacsSpoilt (by kernel_rfl) (of_decide_eq_true (by kernel_rfl)) k1 bel lt1) trodAll_mk0)), rfl, bel.frame _, fun h => by cases h⟩
theorem dimacsSpoilt_row : Rows.DimacsSpoiltSaid :=
 OpenClaim.holds_of_wide 8 Tryz.f8 rfl rfl rfl rfl rfl rfl rfl ⟨rfl, rfl, rfl, rfl, rfl⟩ rfl rfl rfl rfl rfl (by kernel_rfl) Tryz.func8 jFDimacsSpoilt
  (of_decide_eq_true (by kernel_rfl)) (by unfold Func.isWrapper; first | (rw [if_pos (by decide +kernel)]; kernel_rfl) | (rw [if_neg (by decide +kernel)]; exact ⟨rfl, rfl⟩))
  (fun os started H enc _ => lifted_dimacsSpoilt os started H enc)
theorem dimacsSpoilt_holds : Rows.DimacsSpoiltCardSaid :=
 Claim7.holds_tied_plain_at .later [] [.data, .data, .data, .data, .sentinel, .sentinel, .sentinel, .pinned, .pinned] true (true, "db1a12709f6db80646dfb898193eb2153673c0ca52aa4fc7f223a83995abd7cc") true dimacsSpoilt_row (fun _ h => by cases h) (by kernel_rfl) (fun _ h => by cases h) dimacsSpoilt_row_tie rfl ⟨rfl, rfl⟩ (by kernel_rfl) rfl
  (fun f fn hf hfn => by
   obtain rfl : f = 8 := Option.some.inj ((show Tryz.prog.funcNamed "acequia/acequialaw27.DimacsSpoilt" = some 8 by kernel_rfl).symm.trans hf) |>.symm
   obtain rfl : fn = Tryz.f8 := (Option.some.inj (Tryz.func8.symm.trans hfn)).symm
   exact ⟨by kernel_rfl, fun j t ht => by
    rw [show Tryz.f8.params = #[24, 5] by kernel_rfl] at ht
    have hm : t ∈ [24, 5] := by simpa using Array.mem_of_getElem? ht
    have hall : ([24, 5].all fun u => !Tryz.prog.wantsStandIn u) = true := by kernel_rfl
    exact (show Tryz.prog.wantsStandIn t = false by simpa using List.all_eq_true.1 hall t hm)⟩)
  (by kernel_rfl)
end Go.Proofs.YtnppjbofdkokkaaGreatDoor
