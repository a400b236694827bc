/- DimacsBlank: the statement. -/
import Derived.Test.YtnppjbofdkokkaaGreatDoorCards
import Derived.Test.YtnppjbofdkokkaaGreatDoorTie
import Derived.Test.YtnppjbofdkokkaaGreatDoorA2
import Derived.SevenTiedAt
import Derived.Lay
import Derived.Test.YtnppjbofdkokkaaGreatDoorRows
import Derived.Test.YtnppjbofdkokkaaGreatDoorA3
import Derived.Test.YtnppjbofdkokkaaGreatDoorA4
import Derived.Test.YtnppjbofdkokkaaGreatDoorA1
import Derived.WalkKit
import Derived.ProofKit
import Derived.OpenShut
import Derived.ShutString
import Derived.ChangeOld
import Derived.Below
import Derived.Test.YtnppjbofdkokkaaGreatDoorA5
namespace Go.Proofs.YtnppjbofdkokkaaGreatDoor
open Go.ChangeShapes Go.WideShapes Go.ChangeAt Go.RowKit Go.Deep
set_option linter.unusedVariables false
theorem ownDimacsBlank : ownKnob Tryz.prog.godebug = none := by kernel_rfl
theorem laidDimacsBlank : laidOutB Tryz.prog = true := by kernel_rfl
theorem kDimacsBlank2 : Tryz.prog.underlying 2 = some (.int .i64) := by kernel_rfl
theorem kDimacsBlank22 : Tryz.prog.underlying 22 = some (.slice 58) := by kernel_rfl
theorem kDimacsBlank25 : Tryz.prog.underlying 25 = some (.slice 5) := by kernel_rfl
theorem kDimacsBlank3 : Tryz.prog.underlying 3 = some (.int .i64) := by kernel_rfl
theorem kDimacsBlank4 : Tryz.prog.underlying 4 = some .bool := by kernel_rfl
theorem kDimacsBlank5 : Tryz.prog.underlying 5 = some (.int .u8) := by kernel_rfl
theorem gPDimacsBlank : Tryz.prog.globalNamed "internal/strconv.uint64pow10" = some 2 := by kernel_rfl
theorem hPDimacsBlank : (Tryz.prog.globals[2]?).map (·.type) = some 184 := by kernel_rfl
theorem uPDimacsBlank : Tryz.prog.underlying 184 = some (.array 20 156) := by kernel_rfl
theorem ePDimacsBlank : Tryz.prog.underlying 156 = some (.int .u64) := by kernel_rfl
theorem cPDimacsBlank : Tryz.prog.cellsOf 156 = 1 := by kernel_rfl
theorem dPDimacsBlank : Tryz.prog.cellsOf 184 = 20 := by kernel_rfl
theorem tabDimacsBlank : (Rows.laid_internal_strconv_uint64pow10 : DataW Unit) = Lib.tabData .u64 Lib.pow10Tab := by kernel_rfl
theorem gSDimacsBlank : Tryz.prog.globalNamed "strconv.ErrSyntax" = some 6 := by kernel_rfl
theorem hSDimacsBlank : (Tryz.prog.globals[6]?).map (·.type) = some 90 := by kernel_rfl
theorem gRDimacsBlank : Tryz.prog.globalNamed "strconv.ErrRange" = some 7 := by kernel_rfl
theorem hRDimacsBlank : (Tryz.prog.globals[7]?).map (·.type) = some 90 := by kernel_rfl
theorem uSDimacsBlank : Tryz.prog.underlying 226 = some (.pointer 228) := by kernel_rfl
theorem ctDimacsBlank : Tryz.prog.cellsOf 228 = 1 := by kernel_rfl
theorem csDimacsBlank : Tryz.prog.cellsOf 9 = 1 := by kernel_rfl
theorem usDimacsBlank : Tryz.prog.underlying 9 = some .string := by kernel_rfl
theorem slDimacsBlank : "*" ++ "errors.errorString" = "*errors.errorString" := by decide
theorem rwDimacsBlank (u : TypeId) (h : Tryz.prog.typeName? 3 u = some "*errors.errorString") : u = 226 :=
 typeName_ptr_named (nm := "errors.errorString") (by rw [slDimacsBlank]; kernel_rfl) (by kernel_rfl) (by decide) u (by rw [slDimacsBlank]; exact h)
theorem gMDimacsBlank : Tryz.prog.globalNamed "internal/bytealg.MaxLen" = some 0 := by kernel_rfl
theorem gkDimacsBlank {W : World} (hL : laidMetH Tryz.prog Rows.dimacsBlankRow.laid W) (hS : W.ShapedOpen Tryz.prog) : Acq.GK Tryz.prog W [] := by
 rw [MakeChecks.laidMetH_plain _ _ _ (by kernel_rfl)] at hL
 have hK : laidMet Tryz.prog [("math/bits.deBruijn32tab", Rows.laid_math_bits_deBruijn32tab), ("math/bits.deBruijn64tab", Rows.laid_math_bits_deBruijn64tab), ("internal/strconv.uint64pow10", Rows.laid_internal_strconv_uint64pow10), ("unicode/utf8.acceptRanges", Rows.laid_unicode_utf8_acceptRanges), ("strconv.ErrRange", Rows.laid_strconv_ErrRange), ("strconv.ErrSyntax", Rows.laid_strconv_ErrSyntax), ("bytes.ErrTooLarge", Rows.laid_bytes_ErrTooLarge), ("unicode/utf8.first", Rows.laid_unicode_utf8_first)] W := hL
 have h1 := hK.tail.tail
 rw [tabDimacsBlank] at h1
 obtain ⟨_, _, vs, -⟩ := laid_sentinel (hK.tail.tail.tail.tail.tail) gSDimacsBlank hSDimacsBlank Tryz.underlying90 rwDimacsBlank uSDimacsBlank Tryz.underlying228 rfl rfl usDimacsBlank ctDimacsBlank csDimacsBlank
 obtain ⟨_, _, vr, -⟩ := laid_sentinel (hK.tail.tail.tail.tail) gRDimacsBlank hRDimacsBlank Tryz.underlying90 rwDimacsBlank uSDimacsBlank Tryz.underlying228 rfl rfl usDimacsBlank ctDimacsBlank csDimacsBlank
 exact ⟨Lib.tabIs_of_head gPDimacsBlank hPDimacsBlank uPDimacsBlank ePDimacsBlank cPDimacsBlank dPDimacsBlank h1, ⟨_, _, vs⟩, ⟨_, _, vr⟩, Acq.int_of_shaped (t := 3) hS gMDimacsBlank (of_decide_eq_true (by kernel_rfl)) (zero := #[.int .i64 0]) (by kernel_rfl) (by kernel_rfl) (by kernel_rfl) (by kernel_rfl) (by kernel_rfl), fun _ _ _ _ => by simp⟩
set_option maxRecDepth 100000 in
theorem lifted_dimacsBlank (os : Os) (started : os.Started) (H : Type) (enc : TypeId × Value → H) :
    ReturnsInHanded {} Tryz.checked os 7 .any (fun w args => (Rows.dimacsBlankSpec.pre enc Tryz.prog Tryz.f7 [] false w args ∧ laidMetH Tryz.prog Rows.dimacsBlankRow.laid w) ∧ sizedMet enc Tryz.prog Tryz.f7 (OpenSpec.ofChange Rows.dimacsBlankSpec) false w args)
      (Rows.dimacsBlankSpec.post enc Tryz.prog Tryz.f7 false true false false) := by
  refine Acq.handed_of_change (C := Tryz.checked) (X := fun w _ => laidMetH Tryz.prog Rows.dimacsBlankRow.laid w) (fun _ _ _ hh h => h.of_heap hh) ownDimacsBlank started (by kernel_rfl) Tryz.func7
    (ChangeSpec.witness_shaped (enc := enc) (C := Tryz.checked) (os := os) (X := fun w _ => laidMetH Tryz.prog Rows.dimacsBlankRow.laid w) false (World.laidAll Tryz.prog os Rows.dimacsBlankRow.laid) #[.agg #[.int .i64 0, .int .i64 0, .int .i64 0, .slice none 0 0], .slice none 0 0] 8 (World.laidAll_os _ _ _)
      (World.shaped_of_ZipB (by kernel_rfl) (by kernel_rfl)) (by kernel_rfl) (by kernel_rfl) (by kernel_rfl)
      (by rw [MakeChecks.laidMetH_plain _ _ _ (by kernel_rfl)]; exact laidMet_laidAll _ (by kernel_rfl) (by kernel_rfl))) ?_
  intro W base args ds gs before hval0 hW hL hSh
  have hval : ∀ (j : Nat) t v, Tryz.f7.params[j]? = some t → args[j]? = some v → Value.okWide Tryz.prog W .any base t v := hval0
  have hW' := hW
  obtain ⟨p, q, hA0, hV, rfl, hfz, hnd⟩ := hW
  have hA : DataW.TrodAll enc Tryz.prog W 0 (fun _ => true) true Tryz.f7.params.toList args.toList ds p := hA0
  rw [show Tryz.f7.params = #[24, 25] by kernel_rfl] at hA hval
  obtain ⟨v0, vs0, d0_, ds0, p0_, q0_, hargs, rfl, rfl, h0, r0⟩ := trodAll_cons hA
  obtain ⟨v1, vs1, d1_, ds1, p1_, q1_, rfl, rfl, rfl, h1, r1⟩ := trodAll_cons r0
  obtain ⟨rfl, rfl, rfl⟩ := trodAll_nil r1
  obtain rfl : args = #[v0, v1] := by cases args; simp_all
  obtain ⟨rfl, rfl⟩ := trodVars_none hV
  have k0 := h0
  have lt0 : ∀ x ∈ p0_, x.block < W.heap.size := by obtain ⟨m, hm⟩ := k0; exact DataW.trod_lt m _ _ _ hm
  have k1 := h1
  have lt1 : ∀ x ∈ p1_, x.block < W.heap.size := by obtain ⟨m, hm⟩ := k1; exact DataW.trod_lt m _ _ _ hm
  obtain ⟨v0_0, v1_0, v2_0, v3_0, y0_0, y1_0, y2_0, y3_0, m_0, rfl, _, _, t0_0, t1_0, t2_0, t3_0⟩ := Joins.open_agg4 Tryz.underlying24 (by kernel_rfl) (by kernel_rfl) (hval 0 24 _ rfl rfl) h0
  obtain ⟨z0_0, g0_0, _, w0_0⟩ := DataW.trod_int kDimacsBlank3 t0_0
  injection g0_0 with g0_0 _; subst g0_0
  obtain ⟨z1_0, g1_0, _, w1_0⟩ := DataW.trod_int kDimacsBlank3 t1_0
  injection g1_0 with g1_0 _; subst g1_0
  obtain ⟨z2_0, g2_0, _, w2_0⟩ := DataW.trod_int kDimacsBlank3 t2_0
  injection g2_0 with g2_0 _; subst g2_0
  obtain ⟨b0, n0, d0, al0, q0, ro0, hc0, hn0, hx0⟩ := Acq.open_arcs kDimacsBlank22 Tryz.underlying58 rfl (by kernel_rfl) (by kernel_rfl) kDimacsBlank3 kDimacsBlank3 kDimacsBlank2 t3_0
  cases q0
  obtain ⟨a1, l1, c1, rfl⟩ := okWide_slice kDimacsBlank25 (hval 1 25 _ rfl rfl)
  obtain ⟨f1, hf1⟩ := h1
  obtain ⟨b1, n1, d1, xs1, q1, ro1, hc1, hn1, hx1⟩ := Acq.open_row (k := .u8) kDimacsBlank25 kDimacsBlank5 (by kernel_rfl) hf1
  cases q1
  clear hA0 hval0
  refine Calls.mono (Ax.w_acequialaw27_DimacsBlank (n0 := (Acq.Net.mk z0_0 z1_0 z2_0 al0)) (how1 := xs1) W (⟨ro0, fun _ _ _ => by simp, hc0⟩ : Acq.RS W [] _ _ _ _ _ _) (⟨ro1, fun _ _ _ => by simp, hc1⟩ : Acq.RS W [] _ _ _ _ _ _) (gkDimacsBlank hL hSh) (r0 := true) (Acq.p_DimacsBlank ⟨Acq.i64ok_wf w0_0, Acq.i64ok_wf w1_0, Acq.i64ok_wf w2_0, fun a ha => ⟨(hx0 a ha).1, (hx0 a ha).2.1, (hx0 a ha).2.2⟩, by show al0.length ≤ _; have := ro0.len; omega⟩ ⟨fun y hy => Acq.u8ok_wf (hx1 y hy), by have := ro1.len; omega⟩)) fun e W' he => ?_
  obtain ⟨v, N, ⟨rfl, rfl⟩, he', hi⟩ := he
  have bel := hi.below
  subst he'
  exact ⟨_, rfl, _, _, _, [], _, [], hW', trodAll_mk1 (shut_bool kDimacsBlank4 _), (trodAll_cons_mk (Below.trod laidDimacsBlank (by kernel_rfl) (of_decide_eq_true (by kernel_rfl)) k0 bel lt0) (trodAll_cons_mk (Below.trod laidDimacsBlank (by kernel_rfl) (of_decide_eq_true (by kernel_rfl)) k1 bel lt1) trodAll_mk0)), rfl, bel.frame _, fun h => by cases h⟩
theorem dimacsBlank_row : Rows.DimacsBlankSaid :=
 OpenClaim.holds_of_wide 7 Tryz.f7 rfl rfl rfl rfl rfl rfl rfl ⟨rfl, rfl, rfl, rfl, rfl⟩ rfl rfl rfl rfl rfl (by kernel_rfl) Tryz.func7 jFDimacsBlank
  (of_decide_eq_true (by kernel_rfl)) (by unfold Func.isWrapper; first | (rw [if_pos (by decide +kernel)]; kernel_rfl) | (rw [if_neg (by decide +kernel)]; exact ⟨rfl, rfl⟩))
  (fun os started H enc _ => lifted_dimacsBlank os started H enc)
theorem dimacsBlank_holds : Rows.DimacsBlankCardSaid :=
 Claim7.holds_tied_plain_at .later [] [.data, .data, .data, .data, .sentinel, .sentinel, .sentinel, .pinned] true (true, "db1a12709f6db80646dfb898193eb2153673c0ca52aa4fc7f223a83995abd7cc") true dimacsBlank_row (fun _ h => by cases h) (by kernel_rfl) (fun _ h => by cases h) dimacsBlank_row_tie rfl ⟨rfl, rfl⟩ (by kernel_rfl) rfl
  (fun f fn hf hfn => by
   obtain rfl : f = 7 := Option.some.inj ((show Tryz.prog.funcNamed "acequia/acequialaw27.DimacsBlank" = some 7 by kernel_rfl).symm.trans hf) |>.symm
   obtain rfl : fn = Tryz.f7 := (Option.some.inj (Tryz.func7.symm.trans hfn)).symm
   exact ⟨by kernel_rfl, fun j t ht => by
    rw [show Tryz.f7.params = #[24, 25] by kernel_rfl] at ht
    have hm : t ∈ [24, 25] := by simpa using Array.mem_of_getElem? ht
    have hall : ([24, 25].all fun u => !Tryz.prog.wantsStandIn u) = true := by kernel_rfl
    exact (show Tryz.prog.wantsStandIn t = false by simpa using List.all_eq_true.1 hall t hm)⟩)
  (by kernel_rfl)
end Go.Proofs.YtnppjbofdkokkaaGreatDoor
