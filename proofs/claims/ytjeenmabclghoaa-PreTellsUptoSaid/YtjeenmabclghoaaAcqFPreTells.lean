/- PreTells: the statement. -/
import Derived.Test.YtjeenmabclghoaaRows
import Derived.Test.YtjeenmabclghoaaA6
import Derived.Test.YtjeenmabclghoaaA7
import Derived.Test.YtjeenmabclghoaaA2
import Derived.WalkKit
import Derived.ProofKit
import Derived.OpenShut
import Derived.ShutString
import Derived.ChangeOld
import Derived.Below
import Derived.JoinedCond
namespace Go.Proofs.Ytjeenmabclghoaa
open Go.ChangeShapes Go.WideShapes Go.ChangeAt Go.RowKit Go.Deep
set_option linter.unusedVariables false
theorem ownPreTells : ownKnob Try.prog.godebug = none := by kernel_rfl
theorem laidPreTells : laidOutB Try.prog = true := by kernel_rfl
theorem kPreTells2 : Try.prog.underlying 2 = some (.int .i64) := by kernel_rfl
theorem kPreTells22 : Try.prog.underlying 22 = some (.slice 67) := by kernel_rfl
theorem kPreTells25 : Try.prog.underlying 25 = some (.slice 5) := by kernel_rfl
theorem kPreTells26 : Try.prog.underlying 26 = some (.slice 2) := by kernel_rfl
theorem kPreTells27 : Try.prog.underlying 27 = some (.slice 3) := by kernel_rfl
theorem kPreTells3 : Try.prog.underlying 3 = some (.int .i64) := by kernel_rfl
theorem kPreTells4 : Try.prog.underlying 4 = some .bool := by kernel_rfl
theorem kPreTells5 : Try.prog.underlying 5 = some (.int .u8) := by kernel_rfl
theorem bulkPos {H : Type} (d : DataW H) : 1 ≤ Rows.uptoBulk d := by
 cases d with
 | lit l => cases l <;> simp [Rows.uptoBulk]
 | _ => simp [Rows.uptoBulk]
theorem bulkLen {H : Type} : ∀ ds : List (DataW H), ds.length ≤ Rows.uptoBulkAll ds
 | [] => Nat.zero_le _
 | d :: r => by have h1 := bulkPos d; have h2 := bulkLen r; simp only [Rows.uptoBulkAll, List.length_cons]; omega
theorem bulkRow {H : Type} {enc : TypeId × Value → H} {P : Program} {w : World} {base : Nat} {spare : Nat → Bool} {held : Bool} {fuel : Nat} {t e : TypeId} {b : Option Addr} {n c : Nat} {x : DataW H × List MemPlace}
    (ht : P.underlying t = some (.slice e)) (h : DataW.trod enc P w base spare held fuel t [.slice b n c] = some x) : n ≤ Rows.uptoBulk x.1 := by
  rcases DataW.trod_slice ht h with ⟨h1, rfl⟩ | ⟨a, len, cap, elems, rest, m, _, h1, rfl, _, _, _, hl, _⟩
  · injection h1 with h1 _; injection h1 with _ h2 _; omega
  · injection h1 with h1 _; injection h1 with _ h2 _
    have h3 := bulkLen (elems.map (·.1))
    rw [List.length_map] at h3
    simp only [Rows.uptoBulk]; omega
set_option maxRecDepth 100000 in
theorem lifted_preTells (os : Os) (started : os.Started) (H : Type) (enc : TypeId × Value → H) (F0 : Stop.Interp) :
    ReturnsInHanded {} Try.checked os 3 .any ((Rows.OpenSpec.upto Rows.preTellsSpec).pre6 enc Try.prog Try.f3 Rows.preTellsUptoRow.domain false) (((Rows.OpenSpec.upto Rows.preTellsSpec).at F0).post enc Try.prog Try.f3 false true false false) := by
  refine returnsInHanded_of_cond (C := Try.checked) (s := (Rows.OpenSpec.upto Rows.preTellsSpec)) (k := Rows.uptoSmall) rfl ownPreTells started (by kernel_rfl) Try.func3
    (OpenSpec.witness (enc := enc) (C := Try.checked) (s := (Rows.OpenSpec.upto Rows.preTellsSpec)) (k := Rows.uptoSmall) rfl false ⟨#[], #[.agg #[.int .i64 0, .int .i64 0, .int .i64 0, .slice none 0 0], .slice none 0 0, .agg #[.slice none 0 0, .slice none 0 0, .slice none 0 0], .int .i64 0, .int .i64 0], []⟩ 8 (by kernel_rfl) (by kernel_rfl) (by kernel_rfl) (x := ([.agg [.lit (.int .i64 0), .lit (.int .i64 0), .lit (.int .i64 0), .nil], .nil, .agg [.nil, .nil, .nil], .lit (.int .i64 0), .lit (.int .i64 0)], [], [])) (by kernel_rfl) (by kernel_rfl) (by kernel_rfl)) ?_
  intro W base args ds gs before hval0 hW hcnd hbulk _
  have hval : ∀ (j : Nat) t v, Try.f3.params[j]? = some t → args[j]? = some v → Value.okWide Try.prog W .any base t v := hval0
  have hW' := hW
  obtain ⟨p, q, hA0, hV, rfl, hfz, hnd⟩ := hW
  have hA : DataW.TrodAll enc Try.prog W 0 (fun _ => true) true Try.f3.params.toList args.toList ds p := hA0
  rw [show Try.f3.params = #[24, 25, 29, 3, 3] by kernel_rfl] at hA hval
  obtain ⟨v0, vs0, d0_, ds0, p0_, q0_, hargs, rfl, rfl, h0, r0⟩ := trodAll_cons hA
  obtain ⟨v1, vs1, d1_, ds1, p1_, q1_, rfl, rfl, rfl, h1, r1⟩ := trodAll_cons r0
  obtain ⟨v2, vs2, d2_, ds2, p2_, q2_, rfl, rfl, rfl, h2, r2⟩ := trodAll_cons r1
  obtain ⟨v3, vs3, d3_, ds3, p3_, q3_, rfl, rfl, rfl, h3, r3⟩ := trodAll_cons r2
  obtain ⟨v4, vs4, d4_, ds4, p4_, q4_, rfl, rfl, rfl, h4, r4⟩ := trodAll_cons r3
  obtain ⟨rfl, rfl, rfl⟩ := trodAll_nil r4
  obtain rfl : args = #[v0, v1, v2, v3, v4] := by cases args; simp_all
  obtain ⟨rfl, rfl⟩ := trodVars_none hV
  have k0 := h0
  have lt0 : ∀ x ∈ p0_, x.block < W.heap.size := by obtain ⟨m, hm⟩ := k0; exact DataW.trod_lt m _ _ _ hm
  have k1 := h1
  have lt1 : ∀ x ∈ p1_, x.block < W.heap.size := by obtain ⟨m, hm⟩ := k1; exact DataW.trod_lt m _ _ _ hm
  have k2 := h2
  have lt2 : ∀ x ∈ p2_, x.block < W.heap.size := by obtain ⟨m, hm⟩ := k2; exact DataW.trod_lt m _ _ _ hm
  have k3 := h3
  have lt3 : ∀ x ∈ p3_, x.block < W.heap.size := by obtain ⟨m, hm⟩ := k3; exact DataW.trod_lt m _ _ _ hm
  have k4 := h4
  have lt4 : ∀ x ∈ p4_, x.block < W.heap.size := by obtain ⟨m, hm⟩ := k4; exact DataW.trod_lt m _ _ _ hm
  obtain ⟨v0_0, v1_0, v2_0, v3_0, y0_0, y1_0, y2_0, y3_0, m_0, rfl, _, _, t0_0, t1_0, t2_0, t3_0⟩ := Joins.open_agg4 Try.underlying24 (by kernel_rfl) (by kernel_rfl) (hval 0 24 _ rfl rfl) h0
  obtain ⟨z0_0, g0_0, _, w0_0⟩ := DataW.trod_int kPreTells3 t0_0
  injection g0_0 with g0_0 _; subst g0_0
  obtain ⟨z1_0, g1_0, _, w1_0⟩ := DataW.trod_int kPreTells3 t1_0
  injection g1_0 with g1_0 _; subst g1_0
  obtain ⟨z2_0, g2_0, _, w2_0⟩ := DataW.trod_int kPreTells3 t2_0
  injection g2_0 with g2_0 _; subst g2_0
  obtain ⟨b0, n0, d0, al0, q0, ro0, hc0, hn0, hx0⟩ := Acq.open_arcs kPreTells22 Try.underlying67 rfl (by kernel_rfl) (by kernel_rfl) kPreTells3 kPreTells3 kPreTells2 t3_0
  cases q0
  obtain ⟨a1, l1, c1, rfl⟩ := okWide_slice kPreTells25 (hval 1 25 _ rfl rfl)
  obtain ⟨f1, hf1⟩ := h1
  obtain ⟨b1, n1, d1, xs1, q1, ro1, hc1, hn1, hx1⟩ := Acq.open_row (k := .u8) kPreTells25 kPreTells5 (by kernel_rfl) hf1
  cases q1
  obtain ⟨v0_2, v1_2, v2_2, y0_2, y1_2, y2_2, m_2, rfl, rfl, _, t0_2, t1_2, t2_2⟩ := Joins.open_agg3 Try.underlying29 (by kernel_rfl) (by kernel_rfl) (hval 2 29 _ rfl rfl) h2
  obtain ⟨b0_2, n0_2, d0_2, xs0_2, q0_2, ro0_2, hc0_2, hn0_2, hx0_2⟩ := Acq.open_row (k := .i64) kPreTells26 kPreTells2 (by kernel_rfl) t0_2
  cases q0_2
  have bk0_2 := bulkRow kPreTells26 t0_2
  obtain ⟨b1_2, n1_2, d1_2, xs1_2, q1_2, ro1_2, hc1_2, hn1_2, hx1_2⟩ := Acq.open_row (k := .i64) kPreTells26 kPreTells2 (by kernel_rfl) t1_2
  cases q1_2
  have bk1_2 := bulkRow kPreTells26 t1_2
  obtain ⟨b2_2, n2_2, d2_2, xs2_2, q2_2, ro2_2, hc2_2, hn2_2, hx2_2⟩ := Acq.open_row (k := .i64) kPreTells27 kPreTells3 (by kernel_rfl) t2_2
  cases q2_2
  have bk2_2 := bulkRow kPreTells27 t2_2
  obtain ⟨x3, rfl⟩ := okWide_int kPreTells3 (hval 3 3 _ rfl rfl)
  obtain ⟨f3, hf3⟩ := h3
  obtain ⟨z3, e3, _, wf3⟩ := DataW.trod_int kPreTells3 hf3
  obtain rfl : x3 = z3 := by injection e3 with e3 _; injection e3
  obtain ⟨x4, rfl⟩ := okWide_int kPreTells3 (hval 4 3 _ rfl rfl)
  obtain ⟨f4, hf4⟩ := h4
  obtain ⟨z4, e4, _, wf4⟩ := DataW.trod_int kPreTells3 hf4
  obtain rfl : x4 = z4 := by injection e4 with e4 _; injection e4
  simp only [Rows.uptoSmall, decide_eq_true_eq, List.append_nil, List.cons_append, List.nil_append, Rows.uptoBulkAll, Rows.uptoBulk] at hbulk
  clear hA0 hval0
  refine Calls.mono (Ax.w_acequialaw07_PreTells (n0 := (Acq.Net.mk z0_0 z1_0 z2_0 al0)) (moves1 := xs1) (p2 := (Acq.Pre.mk xs0_2 xs1_2 xs2_2)) (a3 := x3) (u4 := x4) W (⟨ro0, fun _ _ _ => by simp, hc0⟩ : Acq.RS W [] _ _ _ _ _ _) (⟨ro1, fun _ _ _ => by simp, hc1⟩ : Acq.RS W [] _ _ _ _ _ _) (⟨ro0_2, fun _ _ _ => by simp, hc0_2⟩ : Acq.RS W [] _ _ _ _ _ _) (⟨ro1_2, fun _ _ _ => by simp, hc1_2⟩ : Acq.RS W [] _ _ _ _ _ _) (⟨ro2_2, fun _ _ _ => by simp, hc2_2⟩ : Acq.RS W [] _ _ _ _ _ _) (r0 := true) (Acq.p_PreTells ⟨Acq.i64ok_wf w0_0, Acq.i64ok_wf w1_0, Acq.i64ok_wf w2_0, fun a ha => ⟨(hx0 a ha).1, (hx0 a ha).2.1, (hx0 a ha).2.2⟩, by show al0.length ≤ _; have := ro0.len; omega⟩ ⟨fun y hy => Acq.u8ok_wf (hx1 y hy), by have := ro1.len; omega⟩ (show xs0_2.length ≤ 1048576 by have := ro0_2.len; omega) (show xs1_2.length ≤ 1048576 by have := ro1_2.len; omega) (show xs2_2.length ≤ 1048576 by have := ro2_2.len; omega))) fun e W' he => ?_
  obtain ⟨v, N, ⟨rfl, rfl⟩, he', hi⟩ := he
  have bel := hi.below
  subst he'
  exact ⟨_, rfl, _, _, _, [], _, [], hW', trodAll_mk1 (shut_bool kPreTells4 _), (trodAll_cons_mk (Below.trod laidPreTells (by kernel_rfl) (of_decide_eq_true (by kernel_rfl)) k0 bel lt0) (trodAll_cons_mk (Below.trod laidPreTells (by kernel_rfl) (of_decide_eq_true (by kernel_rfl)) k1 bel lt1) (trodAll_cons_mk (Below.trod laidPreTells (by kernel_rfl) (of_decide_eq_true (by kernel_rfl)) k2 bel lt2) (trodAll_cons_mk (Below.trod laidPreTells (by kernel_rfl) (of_decide_eq_true (by kernel_rfl)) k3 bel lt3) (trodAll_cons_mk (Below.trod laidPreTells (by kernel_rfl) (of_decide_eq_true (by kernel_rfl)) k4 bel lt4) trodAll_mk0))))), rfl, bel.frame _, fun h => by cases h⟩
theorem preTells_holds : Rows.PreTellsUptoSaid :=
 OpenClaim.holds_of_cond 3 Try.f3 rfl rfl rfl rfl rfl rfl rfl ⟨rfl, rfl, rfl, rfl, rfl⟩ rfl rfl rfl rfl rfl (by kernel_rfl) Try.func3 (by kernel_rfl)
  (of_decide_eq_true (by kernel_rfl)) (by unfold Func.isWrapper; first | (rw [if_pos (by decide +kernel)]; kernel_rfl) | (rw [if_neg (by decide +kernel)]; exact ⟨rfl, rfl⟩))
  (fun os started H enc _ F0 => lifted_preTells os started H enc F0)
end Go.Proofs.Ytjeenmabclghoaa
