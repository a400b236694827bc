/- CyclesRound: the statement. -/
import Derived.Test.YtfdhelnfgfaeaaaRows
import Derived.Test.YtfdhelnfgfaeaaaA4
import Derived.Test.YtfdhelnfgfaeaaaA2
import Derived.WalkKit
import Derived.ProofKit
import Derived.OpenShut
import Derived.ShutString
import Derived.ChangeOld
import Derived.Below
namespace Go.Proofs.Ytfdhelnfgfaeaaa
open Go.ChangeShapes Go.WideShapes Go.ChangeAt Go.RowKit Go.Deep
set_option linter.unusedVariables false
theorem ownCyclesRound : ownKnob Try.prog.godebug = none := by kernel_rfl
theorem laidCyclesRound : laidOutB Try.prog = true := by kernel_rfl
theorem kCyclesRound2 : Try.prog.underlying 2 = some (.int .i64) := by kernel_rfl
theorem kCyclesRound22 : Try.prog.underlying 22 = some (.slice 35) := by kernel_rfl
theorem kCyclesRound26 : Try.prog.underlying 26 = some (.slice 2) := by kernel_rfl
theorem kCyclesRound3 : Try.prog.underlying 3 = some (.int .i64) := by kernel_rfl
theorem kCyclesRound4 : Try.prog.underlying 4 = some .bool := by kernel_rfl
theorem kCyclesRound5 : Try.prog.underlying 5 = some (.int .u8) := by kernel_rfl
theorem kCyclesRound54 : Try.prog.underlying 54 = some (.int .u32) := by kernel_rfl
set_option maxRecDepth 100000 in
theorem lifted_cyclesRound (os : Os) (started : os.Started) (H : Type) (enc : TypeId × Value → H) :
    ReturnsInHanded {} Try.checked os 7 .any (Rows.cyclesRoundSpec.pre6 enc Try.prog Try.f7 Rows.cyclesRoundRow.domain false) (Rows.cyclesRoundSpec.post enc Try.prog Try.f7 false true false false) := by
  refine returnsInHanded_of_change (C := Try.checked) ownCyclesRound started (by kernel_rfl) Try.func7
    (ChangeSpec.witness6 (enc := enc) (C := Try.checked) false ⟨#[], #[.int .u8 0, .slice none 0 0, .slice none 0 0, .int .u32 0], []⟩ 8 (by kernel_rfl) (by kernel_rfl) (by kernel_rfl) (by kernel_rfl)) ?_
  intro W base args ds gs before hval0 hW hcnd _
  have hval : ∀ (j : Nat) t v, Try.f7.params[j]? = some t → args[j]? = some v → Value.okWide Try.prog W .any base t v := hval0
  have hW' := hW
  obtain ⟨p, q, hA0, hV, rfl, hfz, hnd⟩ := hW
  have hA : DataW.TrodAll enc Try.prog W 0 (fun _ => true) true Try.f7.params.toList args.toList ds p := hA0
  rw [show Try.f7.params = #[5, 22, 26, 54] by kernel_rfl] at hA hval
  obtain ⟨v0, vs0, d0_, ds0, p0_, q0_, hargs, rfl, rfl, h0, r0⟩ := trodAll_cons hA
  obtain ⟨v1, vs1, d1_, ds1, p1_, q1_, rfl, rfl, rfl, h1, r1⟩ := trodAll_cons r0
  obtain ⟨v2, vs2, d2_, ds2, p2_, q2_, rfl, rfl, rfl, h2, r2⟩ := trodAll_cons r1
  obtain ⟨v3, vs3, d3_, ds3, p3_, q3_, rfl, rfl, rfl, h3, r3⟩ := trodAll_cons r2
  obtain ⟨rfl, rfl, rfl⟩ := trodAll_nil r3
  obtain rfl : args = #[v0, v1, v2, v3] := by cases args; simp_all
  obtain ⟨rfl, rfl⟩ := trodVars_none hV
  have k0 := h0
  have lt0 : ∀ x ∈ p0_, x.block < W.heap.size := by obtain ⟨m, hm⟩ := k0; exact DataW.trod_lt m _ _ _ hm
  have k1 := h1
  have lt1 : ∀ x ∈ p1_, x.block < W.heap.size := by obtain ⟨m, hm⟩ := k1; exact DataW.trod_lt m _ _ _ hm
  have k2 := h2
  have lt2 : ∀ x ∈ p2_, x.block < W.heap.size := by obtain ⟨m, hm⟩ := k2; exact DataW.trod_lt m _ _ _ hm
  have k3 := h3
  have lt3 : ∀ x ∈ p3_, x.block < W.heap.size := by obtain ⟨m, hm⟩ := k3; exact DataW.trod_lt m _ _ _ hm
  obtain ⟨x0, rfl⟩ := okWide_int kCyclesRound5 (hval 0 5 _ rfl rfl)
  obtain ⟨f0, hf0⟩ := h0
  obtain ⟨z0, e0, _, wf0⟩ := DataW.trod_int kCyclesRound5 hf0
  obtain rfl : x0 = z0 := by injection e0 with e0 _; injection e0
  obtain ⟨a1, l1, c1, rfl⟩ := okWide_slice kCyclesRound22 (hval 1 22 _ rfl rfl)
  obtain ⟨f1, hf1⟩ := h1
  obtain ⟨b1, n1, d1, al1, q1, ro1, hc1, hn1, hx1⟩ := Acq.open_arcs kCyclesRound22 Try.underlying35 rfl (by kernel_rfl) (by kernel_rfl) kCyclesRound3 kCyclesRound3 kCyclesRound2 hf1
  cases q1
  obtain ⟨a2, l2, c2, rfl⟩ := okWide_slice kCyclesRound26 (hval 2 26 _ rfl rfl)
  obtain ⟨f2, hf2⟩ := h2
  obtain ⟨b2, n2, d2, xs2, q2, ro2, hc2, hn2, hx2⟩ := Acq.open_row (k := .i64) kCyclesRound26 kCyclesRound2 (by kernel_rfl) hf2
  cases q2
  obtain ⟨x3, rfl⟩ := okWide_int kCyclesRound54 (hval 3 54 _ rfl rfl)
  obtain ⟨f3, hf3⟩ := h3
  obtain ⟨z3, e3, _, wf3⟩ := DataW.trod_int kCyclesRound54 hf3
  obtain rfl : x3 = z3 := by injection e3 with e3 _; injection e3
  clear hA0 hval0
  refine Calls.mono (Ax.w_acequialaw22_CyclesRound (many0 := x0) (arcs1 := al1) (l2 := xs2) (d3 := x3) W (⟨ro1, fun _ _ _ => by simp, hc1⟩ : Acq.RS W [] _ _ _ _ _ _) (⟨ro2, fun _ _ _ => by simp, hc2⟩ : Acq.RS W [] _ _ _ _ _ _) (r0 := true) (Acq.p_CyclesRound (Acq.u8ok_wf wf0) ⟨fun a ha => ⟨(hx1 a ha).1, (hx1 a ha).2.1, (hx1 a ha).2.2⟩, by have := ro1.len; omega⟩ ⟨fun y hy => Acq.i64ok_wf (hx2 y hy), by have := ro2.len; omega⟩ (Acq.u32ok_wf wf3))) fun e W' he => ?_
  obtain ⟨v, N, ⟨rfl, rfl⟩, he', hi⟩ := he
  have bel := hi.below
  subst he'
  exact ⟨_, rfl, _, _, _, [], _, [], hW', trodAll_mk1 (shut_bool kCyclesRound4 _), (trodAll_cons_mk (Below.trod laidCyclesRound (by kernel_rfl) (of_decide_eq_true (by kernel_rfl)) k0 bel lt0) (trodAll_cons_mk (Below.trod laidCyclesRound (by kernel_rfl) (of_decide_eq_true (by kernel_rfl)) k1 bel lt1) (trodAll_cons_mk (Below.trod laidCyclesRound (by kernel_rfl) (of_decide_eq_true (by kernel_rfl)) k2 bel lt2) (trodAll_cons_mk (Below.trod laidCyclesRound (by kernel_rfl) (of_decide_eq_true (by kernel_rfl)) k3 bel lt3) trodAll_mk0)))), rfl, bel.frame _, fun h => by cases h⟩
theorem cyclesRound_holds : Rows.CyclesRoundSaid :=
 OpenClaim.holds_of_wide 7 Try.f7 rfl rfl rfl rfl rfl rfl rfl ⟨rfl, rfl, rfl, rfl, rfl⟩ rfl rfl rfl rfl rfl (by kernel_rfl) Try.func7 (by kernel_rfl)
  (of_decide_eq_true (by kernel_rfl)) (by unfold Func.isWrapper; first | (rw [if_pos (by decide +kernel)]; kernel_rfl) | (rw [if_neg (by decide +kernel)]; exact ⟨rfl, rfl⟩))
  (fun os started H enc _ => lifted_cyclesRound os started H enc)
end Go.Proofs.Ytfdhelnfgfaeaaa
