/- BackCut: the statement. -/
import Derived.Test.YtfdhelnfgfaeaaaRows
import Derived.Test.YtfdhelnfgfaeaaaA5
import Derived.Test.YtfdhelnfgfaeaaaA6
import Derived.Test.YtfdhelnfgfaeaaaA2
import Derived.WalkKit
import Derived.ProofKit
import Derived.OpenShut
import Derived.ShutString
import Derived.ChangeOld
import Derived.Below
namespace Go.Proofs.Ytfdhelnfgfaeaaa
open Go.ChangeShapes Go.WideShapes Go.ChangeAt Go.RowKit Go.Deep
set_option linter.unusedVariables false
theorem ownBackCut : ownKnob Try.prog.godebug = none := by kernel_rfl
theorem laidBackCut : laidOutB Try.prog = true := by kernel_rfl
theorem kBackCut2 : Try.prog.underlying 2 = some (.int .i64) := by kernel_rfl
theorem kBackCut22 : Try.prog.underlying 22 = some (.slice 35) := by kernel_rfl
theorem kBackCut3 : Try.prog.underlying 3 = some (.int .i64) := by kernel_rfl
theorem kBackCut4 : Try.prog.underlying 4 = some .bool := by kernel_rfl
theorem kBackCut5 : Try.prog.underlying 5 = some (.int .u8) := by kernel_rfl
theorem kBackCut70 : Try.prog.underlying 70 = some (.slice 5) := by kernel_rfl
set_option maxRecDepth 100000 in
theorem lifted_backCut (os : Os) (started : os.Started) (H : Type) (enc : TypeId × Value → H) :
    ReturnsInHanded {} Try.checked os 14 .any (Rows.backCutSpec.pre6 enc Try.prog Try.f14 Rows.backCutRow.domain false) (Rows.backCutSpec.post enc Try.prog Try.f14 false true false false) := by
  refine returnsInHanded_of_change (C := Try.checked) ownBackCut started (by kernel_rfl) Try.func14
    (ChangeSpec.witness6 (enc := enc) (C := Try.checked) false ⟨#[], #[.agg #[.int .i64 0, .int .i64 0, .int .i64 0, .slice none 0 0], .slice none 0 0, .bool false], []⟩ 8 (by kernel_rfl) (by kernel_rfl) (by kernel_rfl) (by kernel_rfl)) ?_
  intro W base args ds gs before hval0 hW hcnd _
  have hval : ∀ (j : Nat) t v, Try.f14.params[j]? = some t → args[j]? = some v → Value.okWide Try.prog W .any base t v := hval0
  have hW' := hW
  obtain ⟨p, q, hA0, hV, rfl, hfz, hnd⟩ := hW
  have hA : DataW.TrodAll enc Try.prog W 0 (fun _ => true) true Try.f14.params.toList args.toList ds p := hA0
  rw [show Try.f14.params = #[24, 70, 4] by kernel_rfl] at hA hval
  obtain ⟨v0, vs0, d0_, ds0, p0_, q0_, hargs, rfl, rfl, h0, r0⟩ := trodAll_cons hA
  obtain ⟨v1, vs1, d1_, ds1, p1_, q1_, rfl, rfl, rfl, h1, r1⟩ := trodAll_cons r0
  obtain ⟨v2, vs2, d2_, ds2, p2_, q2_, rfl, rfl, rfl, h2, r2⟩ := trodAll_cons r1
  obtain ⟨rfl, rfl, rfl⟩ := trodAll_nil r2
  obtain rfl : args = #[v0, v1, v2] := by cases args; simp_all
  obtain ⟨rfl, rfl⟩ := trodVars_none hV
  have k0 := h0
  have lt0 : ∀ x ∈ p0_, x.block < W.heap.size := by obtain ⟨m, hm⟩ := k0; exact DataW.trod_lt m _ _ _ hm
  have k1 := h1
  have lt1 : ∀ x ∈ p1_, x.block < W.heap.size := by obtain ⟨m, hm⟩ := k1; exact DataW.trod_lt m _ _ _ hm
  have k2 := h2
  have lt2 : ∀ x ∈ p2_, x.block < W.heap.size := by obtain ⟨m, hm⟩ := k2; exact DataW.trod_lt m _ _ _ hm
  obtain ⟨v0_0, v1_0, v2_0, v3_0, y0_0, y1_0, y2_0, y3_0, m_0, rfl, _, _, t0_0, t1_0, t2_0, t3_0⟩ := Joins.open_agg4 Try.underlying24 (by kernel_rfl) (by kernel_rfl) (hval 0 24 _ rfl rfl) h0
  obtain ⟨z0_0, g0_0, _, w0_0⟩ := DataW.trod_int kBackCut3 t0_0
  injection g0_0 with g0_0 _; subst g0_0
  obtain ⟨z1_0, g1_0, _, w1_0⟩ := DataW.trod_int kBackCut3 t1_0
  injection g1_0 with g1_0 _; subst g1_0
  obtain ⟨z2_0, g2_0, _, w2_0⟩ := DataW.trod_int kBackCut3 t2_0
  injection g2_0 with g2_0 _; subst g2_0
  obtain ⟨b0, n0, d0, al0, q0, ro0, hc0, hn0, hx0⟩ := Acq.open_arcs kBackCut22 Try.underlying35 rfl (by kernel_rfl) (by kernel_rfl) kBackCut3 kBackCut3 kBackCut2 t3_0
  cases q0
  obtain ⟨a1, l1, c1, rfl⟩ := okWide_slice kBackCut70 (hval 1 70 _ rfl rfl)
  obtain ⟨f1, hf1⟩ := h1
  obtain ⟨b1, n1, d1, xs1, q1, ro1, hc1, hn1, hx1⟩ := Acq.open_row (k := .u8) kBackCut70 kBackCut5 (by kernel_rfl) hf1
  cases q1
  obtain ⟨x2, rfl⟩ := okWide_bool kBackCut4 (hval 2 4 _ rfl rfl)
  clear hA0 hval0
  refine Calls.mono (Ax.w_acequialaw23_BackCut (n0 := (Acq.Net.mk z0_0 z1_0 z2_0 al0)) (moves1 := xs1) (whole2 := x2) W (⟨ro0, fun _ _ _ => by simp, hc0⟩ : Acq.RS W [] _ _ _ _ _ _) (⟨ro1, fun _ _ _ => by simp, hc1⟩ : Acq.RS W [] _ _ _ _ _ _) (r0 := true) (Acq.p_BackCut ⟨Acq.i64ok_wf w0_0, Acq.i64ok_wf w1_0, Acq.i64ok_wf w2_0, fun a ha => ⟨(hx0 a ha).1, (hx0 a ha).2.1, (hx0 a ha).2.2⟩, by show al0.length ≤ _; have := ro0.len; omega⟩ ⟨fun y hy => Acq.u8ok_wf (hx1 y hy), by have := ro1.len; omega⟩)) fun e W' he => ?_
  obtain ⟨v, N, ⟨rfl, rfl⟩, he', hi⟩ := he
  have bel := hi.below
  subst he'
  exact ⟨_, rfl, _, _, _, [], _, [], hW', trodAll_mk1 (shut_bool kBackCut4 _), (trodAll_cons_mk (Below.trod laidBackCut (by kernel_rfl) (of_decide_eq_true (by kernel_rfl)) k0 bel lt0) (trodAll_cons_mk (Below.trod laidBackCut (by kernel_rfl) (of_decide_eq_true (by kernel_rfl)) k1 bel lt1) (trodAll_cons_mk (Below.trod laidBackCut (by kernel_rfl) (of_decide_eq_true (by kernel_rfl)) k2 bel lt2) trodAll_mk0))), rfl, bel.frame _, fun h => by cases h⟩
theorem backCut_holds : Rows.BackCutSaid :=
 OpenClaim.holds_of_wide 14 Try.f14 rfl rfl rfl rfl rfl rfl rfl ⟨rfl, rfl, rfl, rfl, rfl⟩ rfl rfl rfl rfl rfl (by kernel_rfl) Try.func14 (by kernel_rfl)
  (of_decide_eq_true (by kernel_rfl)) (by unfold Func.isWrapper; first | (rw [if_pos (by decide +kernel)]; kernel_rfl) | (rw [if_neg (by decide +kernel)]; exact ⟨rfl, rfl⟩))
  (fun os started H enc _ => lifted_backCut os started H enc)
end Go.Proofs.Ytfdhelnfgfaeaaa
