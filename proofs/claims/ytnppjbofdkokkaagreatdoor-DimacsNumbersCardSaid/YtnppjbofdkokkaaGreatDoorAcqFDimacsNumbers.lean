/- DimacsNumbers: the statement. -/
import Derived.Test.YtnppjbofdkokkaaGreatDoorCards
import Derived.Test.YtnppjbofdkokkaaGreatDoorTie
import Derived.Test.YtnppjbofdkokkaaGreatDoorA2
import Derived.SevenTiedAt
import Derived.Lay
import Derived.Test.YtnppjbofdkokkaaGreatDoorRows
import Derived.Test.YtnppjbofdkokkaaGreatDoorA3
import Derived.Test.YtnppjbofdkokkaaGreatDoorA1
import Derived.WalkKit
import Derived.ProofKit
import Derived.OpenShut
import Derived.ShutString
import Derived.ChangeOld
import Derived.Below
import Derived.Test.YtnppjbofdkokkaaGreatDoorA4
namespace Go.Proofs.YtnppjbofdkokkaaGreatDoor
open Go.ChangeShapes Go.WideShapes Go.ChangeAt Go.RowKit Go.Deep
set_option linter.unusedVariables false
theorem ownDimacsNumbers : ownKnob Tryz.prog.godebug = none := by kernel_rfl
theorem laidDimacsNumbers : laidOutB Tryz.prog = true := by kernel_rfl
theorem kDimacsNumbers2 : Tryz.prog.underlying 2 = some (.int .i64) := by kernel_rfl
theorem kDimacsNumbers4 : Tryz.prog.underlying 4 = some .bool := by kernel_rfl
theorem kDimacsNumbers5 : Tryz.prog.underlying 5 = some (.int .u8) := by kernel_rfl
theorem kDimacsNumbers9 : Tryz.prog.underlying 9 = some .string := by kernel_rfl
theorem gPDimacsNumbers : Tryz.prog.globalNamed "internal/strconv.uint64pow10" = some 2 := by kernel_rfl
theorem hPDimacsNumbers : (Tryz.prog.globals[2]?).map (·.type) = some 184 := by kernel_rfl
theorem uPDimacsNumbers : Tryz.prog.underlying 184 = some (.array 20 156) := by kernel_rfl
theorem ePDimacsNumbers : Tryz.prog.underlying 156 = some (.int .u64) := by kernel_rfl
theorem cPDimacsNumbers : Tryz.prog.cellsOf 156 = 1 := by kernel_rfl
theorem dPDimacsNumbers : Tryz.prog.cellsOf 184 = 20 := by kernel_rfl
theorem tabDimacsNumbers : (Rows.laid_internal_strconv_uint64pow10 : DataW Unit) = Lib.tabData .u64 Lib.pow10Tab := by kernel_rfl
theorem gSDimacsNumbers : Tryz.prog.globalNamed "strconv.ErrSyntax" = some 6 := by kernel_rfl
theorem hSDimacsNumbers : (Tryz.prog.globals[6]?).map (·.type) = some 90 := by kernel_rfl
theorem gRDimacsNumbers : Tryz.prog.globalNamed "strconv.ErrRange" = some 7 := by kernel_rfl
theorem hRDimacsNumbers : (Tryz.prog.globals[7]?).map (·.type) = some 90 := by kernel_rfl
theorem uSDimacsNumbers : Tryz.prog.underlying 226 = some (.pointer 228) := by kernel_rfl
theorem ctDimacsNumbers : Tryz.prog.cellsOf 228 = 1 := by kernel_rfl
theorem csDimacsNumbers : Tryz.prog.cellsOf 9 = 1 := by kernel_rfl
theorem usDimacsNumbers : Tryz.prog.underlying 9 = some .string := by kernel_rfl
theorem slDimacsNumbers : "*" ++ "errors.errorString" = "*errors.errorString" := by decide
theorem rwDimacsNumbers (u : TypeId) (h : Tryz.prog.typeName? 3 u = some "*errors.errorString") : u = 226 :=
 typeName_ptr_named (nm := "errors.errorString") (by rw [slDimacsNumbers]; kernel_rfl) (by kernel_rfl) (by decide) u (by rw [slDimacsNumbers]; exact h)
theorem gMDimacsNumbers : Tryz.prog.globalNamed "internal/bytealg.MaxLen" = some 0 := by kernel_rfl
theorem gkDimacsNumbers {W : World} (hL : laidMetH Tryz.prog Rows.dimacsNumbersRow.laid W) (hS : W.ShapedOpen Tryz.prog) : Acq.GK Tryz.prog W [] := by
 rw [MakeChecks.laidMetH_plain _ _ _ (by kernel_rfl)] at hL
 have hK : laidMet Tryz.prog [("math/bits.deBruijn32tab", Rows.laid_math_bits_deBruijn32tab), ("math/bits.deBruijn64tab", Rows.laid_math_bits_deBruijn64tab), ("internal/strconv.uint64pow10", Rows.laid_internal_strconv_uint64pow10), ("unicode/utf8.acceptRanges", Rows.laid_unicode_utf8_acceptRanges), ("strconv.ErrRange", Rows.laid_strconv_ErrRange), ("strconv.ErrSyntax", Rows.laid_strconv_ErrSyntax), ("unicode/utf8.first", Rows.laid_unicode_utf8_first)] W := hL
 have h1 := hK.tail.tail
 rw [tabDimacsNumbers] at h1
 obtain ⟨_, _, vs, -⟩ := laid_sentinel (hK.tail.tail.tail.tail.tail) gSDimacsNumbers hSDimacsNumbers Tryz.underlying90 rwDimacsNumbers uSDimacsNumbers Tryz.underlying228 rfl rfl usDimacsNumbers ctDimacsNumbers csDimacsNumbers
 obtain ⟨_, _, vr, -⟩ := laid_sentinel (hK.tail.tail.tail.tail) gRDimacsNumbers hRDimacsNumbers Tryz.underlying90 rwDimacsNumbers uSDimacsNumbers Tryz.underlying228 rfl rfl usDimacsNumbers ctDimacsNumbers csDimacsNumbers
 exact ⟨Lib.tabIs_of_head gPDimacsNumbers hPDimacsNumbers uPDimacsNumbers ePDimacsNumbers cPDimacsNumbers dPDimacsNumbers h1, ⟨_, _, vs⟩, ⟨_, _, vr⟩, Acq.int_of_shaped (t := 3) hS gMDimacsNumbers (of_decide_eq_true (by kernel_rfl)) (zero := #[.int .i64 0]) (by kernel_rfl) (by kernel_rfl) (by kernel_rfl) (by kernel_rfl) (by kernel_rfl), fun _ _ _ _ => by simp⟩
set_option maxRecDepth 100000 in
theorem lifted_dimacsNumbers (os : Os) (started : os.Started) (H : Type) (enc : TypeId × Value → H) :
    ReturnsInHanded {} Tryz.checked os 6 .any (fun w args => (Rows.dimacsNumbersSpec.pre enc Tryz.prog Tryz.f6 [] false w args ∧ laidMetH Tryz.prog Rows.dimacsNumbersRow.laid w) ∧ sizedMet enc Tryz.prog Tryz.f6 (OpenSpec.ofChange Rows.dimacsNumbersSpec) false w args)
      (Rows.dimacsNumbersSpec.post enc Tryz.prog Tryz.f6 false true false false) := by
  refine Acq.handed_of_change (C := Tryz.checked) (X := fun w _ => laidMetH Tryz.prog Rows.dimacsNumbersRow.laid w) (fun _ _ _ hh h => h.of_heap hh) ownDimacsNumbers started (by kernel_rfl) Tryz.func6
    (ChangeSpec.witness_shaped (enc := enc) (C := Tryz.checked) (os := os) (X := fun w _ => laidMetH Tryz.prog Rows.dimacsNumbersRow.laid w) false (World.laidAll Tryz.prog os Rows.dimacsNumbersRow.laid) #[.int .i64 0, .int .u8 0, .string ByteArray.empty] 8 (World.laidAll_os _ _ _)
      (World.shaped_of_ZipB (by kernel_rfl) (by kernel_rfl)) (by kernel_rfl) (by kernel_rfl) (by kernel_rfl)
      (by rw [MakeChecks.laidMetH_plain _ _ _ (by kernel_rfl)]; exact laidMet_laidAll _ (by kernel_rfl) (by kernel_rfl))) ?_
  intro W base args ds gs before hval0 hW hL hSh
  have hval : ∀ (j : Nat) t v, Tryz.f6.params[j]? = some t → args[j]? = some v → Value.okWide Tryz.prog W .any base t v := hval0
  have hW' := hW
  obtain ⟨p, q, hA0, hV, rfl, hfz, hnd⟩ := hW
  have hA : DataW.TrodAll enc Tryz.prog W 0 (fun _ => true) true Tryz.f6.params.toList args.toList ds p := hA0
  rw [show Tryz.f6.params = #[2, 5, 9] by kernel_rfl] at hA hval
  obtain ⟨v0, vs0, d0_, ds0, p0_, q0_, hargs, rfl, rfl, h0, r0⟩ := trodAll_cons hA
  obtain ⟨v1, vs1, d1_, ds1, p1_, q1_, rfl, rfl, rfl, h1, r1⟩ := trodAll_cons r0
  obtain ⟨v2, vs2, d2_, ds2, p2_, q2_, rfl, rfl, rfl, h2, r2⟩ := trodAll_cons r1
  obtain ⟨rfl, rfl, rfl⟩ := trodAll_nil r2
  obtain rfl : args = #[v0, v1, v2] := by cases args; simp_all
  obtain ⟨rfl, rfl⟩ := trodVars_none hV
  have k0 := h0
  have lt0 : ∀ x ∈ p0_, x.block < W.heap.size := by obtain ⟨m, hm⟩ := k0; exact DataW.trod_lt m _ _ _ hm
  have k1 := h1
  have lt1 : ∀ x ∈ p1_, x.block < W.heap.size := by obtain ⟨m, hm⟩ := k1; exact DataW.trod_lt m _ _ _ hm
  have k2 := h2
  have lt2 : ∀ x ∈ p2_, x.block < W.heap.size := by obtain ⟨m, hm⟩ := k2; exact DataW.trod_lt m _ _ _ hm
  obtain ⟨x0, rfl⟩ := okWide_int kDimacsNumbers2 (hval 0 2 _ rfl rfl)
  obtain ⟨f0, hf0⟩ := h0
  obtain ⟨z0, e0, _, wf0⟩ := DataW.trod_int kDimacsNumbers2 hf0
  obtain rfl : x0 = z0 := by injection e0 with e0 _; injection e0
  obtain ⟨x1, rfl⟩ := okWide_int kDimacsNumbers5 (hval 1 5 _ rfl rfl)
  obtain ⟨f1, hf1⟩ := h1
  obtain ⟨z1, e1, _, wf1⟩ := DataW.trod_int kDimacsNumbers5 hf1
  obtain rfl : x1 = z1 := by injection e1 with e1 _; injection e1
  obtain ⟨x2, rfl⟩ := okWide_string kDimacsNumbers9 (hval 2 9 _ rfl rfl)
  obtain ⟨f2, hf2⟩ := h2
  obtain ⟨z2, e2, _, wf2⟩ := DataW.trod_string kDimacsNumbers9 hf2
  obtain rfl : x2 = z2 := by injection e2 with e2 _; injection e2
  obtain ⟨y2, rfl⟩ : ∃ y : Acq.Str, x2 = Acq.bs y := ⟨x2.data.toList, (Acq.bs_of x2).symm⟩
  clear hA0 hval0
  refine Calls.mono (Ax.w_acequialaw27_DimacsNumbers (n0 := x0) (noughts1 := x1) (s2 := y2) W  (gkDimacsNumbers hL hSh) (r0 := true) (Acq.p_DimacsNumbers (Acq.i64ok_wf wf0) (Acq.u8ok_wf wf1) (show y2.length ≤ 9223372036854775807 by rw [Acq.bs_size] at wf2; exact wf2))) fun e W' he => ?_
  obtain ⟨v, N, ⟨rfl, rfl⟩, he', hi⟩ := he
  have bel := hi.below
  subst he'
  exact ⟨_, rfl, _, _, _, [], _, [], hW', trodAll_mk1 (shut_bool kDimacsNumbers4 _), (trodAll_cons_mk (Below.trod laidDimacsNumbers (by kernel_rfl) (of_decide_eq_true (by kernel_rfl)) k0 bel lt0) (trodAll_cons_mk (Below.trod laidDimacsNumbers (by kernel_rfl) (of_decide_eq_true (by kernel_rfl)) k1 bel lt1) (trodAll_cons_mk (Below.trod laidDimacsNumbers (by kernel_rfl) (of_decide_eq_true (by kernel_rfl)) k2 bel lt2) trodAll_mk0))), rfl, bel.frame _, fun h => by cases h⟩
theorem dimacsNumbers_row : Rows.DimacsNumbersSaid :=
 OpenClaim.holds_of_wide 6 Tryz.f6 rfl rfl rfl rfl rfl rfl rfl ⟨rfl, rfl, rfl, rfl, rfl⟩ rfl rfl rfl rfl rfl (by kernel_rfl) Tryz.func6 jFDimacsNumbers
  (of_decide_eq_true (by kernel_rfl)) (by unfold Func.isWrapper; first | (rw [if_pos (by decide +kernel)]; kernel_rfl) | (rw [if_neg (by decide +kernel)]; exact ⟨rfl, rfl⟩))
  (fun os started H enc _ => lifted_dimacsNumbers os started H enc)
theorem dimacsNumbers_holds : Rows.DimacsNumbersCardSaid :=
 Claim7.holds_tied_plain_at .later [] [.data, .data, .data, .data, .sentinel, .sentinel, .pinned] true (true, "db1a12709f6db80646dfb898193eb2153673c0ca52aa4fc7f223a83995abd7cc") true dimacsNumbers_row (fun _ h => by cases h) (by kernel_rfl) (fun _ h => by cases h) dimacsNumbers_row_tie rfl ⟨rfl, rfl⟩ (by kernel_rfl) rfl
  (fun f fn hf hfn => by
   obtain rfl : f = 6 := Option.some.inj ((show Tryz.prog.funcNamed "acequia/acequialaw27.DimacsNumbers" = some 6 by kernel_rfl).symm.trans hf) |>.symm
   obtain rfl : fn = Tryz.f6 := (Option.some.inj (Tryz.func6.symm.trans hfn)).symm
   exact ⟨by kernel_rfl, fun j t ht => by
    rw [show Tryz.f6.params = #[2, 5, 9] by kernel_rfl] at ht
    have hm : t ∈ [2, 5, 9] := by simpa using Array.mem_of_getElem? ht
    have hall : ([2, 5, 9].all fun u => !Tryz.prog.wantsStandIn u) = true := by kernel_rfl
    exact (show Tryz.prog.wantsStandIn t = false by simpa using List.all_eq_true.1 hall t hm)⟩)
  (by kernel_rfl)
end Go.Proofs.YtnppjbofdkokkaaGreatDoor
