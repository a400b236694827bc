/- TraceTells: the statement. -/
import Derived.Test.YtobnnpdfeakbbaaGreatRows
import Derived.Test.YtobnnpdfeakbbaaGreatA6
import Derived.Test.YtobnnpdfeakbbaaGreatA2
import Derived.WalkKit
import Derived.ProofKit
import Derived.OpenShut
import Derived.ShutString
import Derived.ChangeOld
import Derived.Below
import Derived.JoinedCond
import Derived.Test.YtobnnpdfeakbbaaGreatA7
namespace Go.Proofs.YtobnnpdfeakbbaaGreat
open Go.ChangeShapes Go.WideShapes Go.ChangeAt Go.RowKit Go.Deep
set_option linter.unusedVariables false
theorem ownTraceTells : ownKnob Tryz.prog.godebug = none := by kernel_rfl
theorem laidTraceTells : laidOutB Tryz.prog = true := by kernel_rfl
theorem kTraceTells2 : Tryz.prog.underlying 2 = some (.int .i64) := by kernel_rfl
theorem kTraceTells22 : Tryz.prog.underlying 22 = some (.slice 131) := by kernel_rfl
theorem kTraceTells25 : Tryz.prog.underlying 25 = some (.slice 3) := by kernel_rfl
theorem kTraceTells26 : Tryz.prog.underlying 26 = some (.slice 2) := by kernel_rfl
theorem kTraceTells3 : Tryz.prog.underlying 3 = some (.int .i64) := by kernel_rfl
theorem kTraceTells4 : Tryz.prog.underlying 4 = some .bool := by kernel_rfl
theorem kTraceTells5 : Tryz.prog.underlying 5 = some (.int .u8) := by kernel_rfl
theorem kTraceTells68 : Tryz.prog.underlying 68 = some (.slice 40) := by kernel_rfl
theorem bulkPos {H : Type} (d : DataW H) : 1 ≤ Rows.uptoBulk d := by
 cases d with
 | lit l => cases l <;> simp [Rows.uptoBulk]
 | _ => simp [Rows.uptoBulk]
theorem bulkLen {H : Type} : ∀ ds : List (DataW H), ds.length ≤ Rows.uptoBulkAll ds
 | [] => Nat.zero_le _
 | d :: r => by have h1 := bulkPos d; have h2 := bulkLen r; simp only [Rows.uptoBulkAll, List.length_cons]; omega
theorem bulkRow {H : Type} {enc : TypeId × Value → H} {P : Program} {w : World} {base : Nat} {spare : Nat → Bool} {held : Bool} {fuel : Nat} {t e : TypeId} {b : Option Addr} {n c : Nat} {x : DataW H × List MemPlace}
    (ht : P.underlying t = some (.slice e)) (h : DataW.trod enc P w base spare held fuel t [.slice b n c] = some x) : n ≤ Rows.uptoBulk x.1 := by
  rcases DataW.trod_slice ht h with ⟨h1, rfl⟩ | ⟨a, len, cap, elems, rest, m, _, h1, rfl, _, _, _, hl, _⟩
  · injection h1 with h1 _; injection h1 with _ h2 _; omega
  · injection h1 with h1 _; injection h1 with _ h2 _
    have h3 := bulkLen (elems.map (·.1))
    rw [List.length_map] at h3
    simp only [Rows.uptoBulk]; omega
set_option maxRecDepth 100000 in
theorem lifted_traceTells (os : Os) (started : os.Started) (H : Type) (enc : TypeId × Value → H) (F0 : Stop.Interp) :
    ReturnsInHanded {} Tryz.checked os 9 .any ((Rows.OpenSpec.upto Rows.traceTellsSpec).pre6 enc Tryz.prog Tryz.f9 Rows.traceTellsUptoRow.domain false) (((Rows.OpenSpec.upto Rows.traceTellsSpec).at F0).post enc Tryz.prog Tryz.f9 false true false false) := by
  refine returnsInHanded_of_cond (C := Tryz.checked) (s := (Rows.OpenSpec.upto Rows.traceTellsSpec)) (k := Rows.uptoSmall) rfl ownTraceTells started (by kernel_rfl) Tryz.func9
    (OpenSpec.witness (enc := enc) (C := Tryz.checked) (s := (Rows.OpenSpec.upto Rows.traceTellsSpec)) (k := Rows.uptoSmall) rfl false ⟨#[], #[.agg #[.int .i64 0, .int .i64 0, .int .i64 0, .slice none 0 0], .agg #[.slice none 0 0, .slice none 0 0, .slice none 0 0], .agg #[.slice none 0 0, .slice none 0 0, .slice none 0 0], .slice none 0 0, .int .i64 0], []⟩ 8 (by kernel_rfl) (by kernel_rfl) (by kernel_rfl) (x := ([.agg [.lit (.int .i64 0), .lit (.int .i64 0), .lit (.int .i64 0), .nil], .agg [.nil, .nil, .nil], .agg [.nil, .nil, .nil], .nil, .lit (.int .i64 0)], [], [])) (by kernel_rfl) (by kernel_rfl) (by kernel_rfl)) ?_
  intro W base args ds gs before hval0 hW hcnd hbulk _
  have hval : ∀ (j : Nat) t v, Tryz.f9.params[j]? = some t → args[j]? = some v → Value.okWide Tryz.prog W .any base t v := hval0
  have hW' := hW
  obtain ⟨p, q, hA0, hV, rfl, hfz, hnd⟩ := hW
  have hA : DataW.TrodAll enc Tryz.prog W 0 (fun _ => true) true Tryz.f9.params.toList args.toList ds p := hA0
  rw [show Tryz.f9.params = #[24, 53, 53, 68, 3] by kernel_rfl] at hA hval
  obtain ⟨v0, vs0, d0_, ds0, p0_, q0_, hargs, rfl, rfl, h0, r0⟩ := trodAll_cons hA
  obtain ⟨v1, vs1, d1_, ds1, p1_, q1_, rfl, rfl, rfl, h1, r1⟩ := trodAll_cons r0
  obtain ⟨v2, vs2, d2_, ds2, p2_, q2_, rfl, rfl, rfl, h2, r2⟩ := trodAll_cons r1
  obtain ⟨v3, vs3, d3_, ds3, p3_, q3_, rfl, rfl, rfl, h3, r3⟩ := trodAll_cons r2
  obtain ⟨v4, vs4, d4_, ds4, p4_, q4_, rfl, rfl, rfl, h4, r4⟩ := trodAll_cons r3
  obtain ⟨rfl, rfl, rfl⟩ := trodAll_nil r4
  obtain rfl : args = #[v0, v1, v2, v3, v4] := by cases args; simp_all
  obtain ⟨rfl, rfl⟩ := trodVars_none hV
  have k0 := h0
  have lt0 : ∀ x ∈ p0_, x.block < W.heap.size := by obtain ⟨m, hm⟩ := k0; exact DataW.trod_lt m _ _ _ hm
  have k1 := h1
  have lt1 : ∀ x ∈ p1_, x.block < W.heap.size := by obtain ⟨m, hm⟩ := k1; exact DataW.trod_lt m _ _ _ hm
  have k2 := h2
  have lt2 : ∀ x ∈ p2_, x.block < W.heap.size := by obtain ⟨m, hm⟩ := k2; exact DataW.trod_lt m _ _ _ hm
  have k3 := h3
  have lt3 : ∀ x ∈ p3_, x.block < W.heap.size := by obtain ⟨m, hm⟩ := k3; exact DataW.trod_lt m _ _ _ hm
  have k4 := h4
  have lt4 : ∀ x ∈ p4_, x.block < W.heap.size := by obtain ⟨m, hm⟩ := k4; exact DataW.trod_lt m _ _ _ hm
  obtain ⟨v0_0, v1_0, v2_0, v3_0, y0_0, y1_0, y2_0, y3_0, m_0, rfl, _, _, t0_0, t1_0, t2_0, t3_0⟩ := Joins.open_agg4 Tryz.underlying24 (by kernel_rfl) (by kernel_rfl) (hval 0 24 _ rfl rfl) h0
  obtain ⟨z0_0, g0_0, _, w0_0⟩ := DataW.trod_int kTraceTells3 t0_0
  injection g0_0 with g0_0 _; subst g0_0
  obtain ⟨z1_0, g1_0, _, w1_0⟩ := DataW.trod_int kTraceTells3 t1_0
  injection g1_0 with g1_0 _; subst g1_0
  obtain ⟨z2_0, g2_0, _, w2_0⟩ := DataW.trod_int kTraceTells3 t2_0
  injection g2_0 with g2_0 _; subst g2_0
  obtain ⟨b0, n0, d0, al0, q0, ro0, hc0, hn0, hx0⟩ := Acq.open_arcs kTraceTells22 Tryz.underlying131 rfl (by kernel_rfl) (by kernel_rfl) kTraceTells3 kTraceTells3 kTraceTells2 t3_0
  cases q0
  obtain ⟨v0_1, v1_1, v2_1, y0_1, y1_1, y2_1, m_1, rfl, rfl, _, t0_1, t1_1, t2_1⟩ := Joins.open_agg3 Tryz.underlying53 (by kernel_rfl) (by kernel_rfl) (hval 1 53 _ rfl rfl) h1
  obtain ⟨b0_1, n0_1, d0_1, xs0_1, q0_1, ro0_1, hc0_1, hn0_1, hx0_1⟩ := Acq.open_row (k := .i64) kTraceTells26 kTraceTells2 (by kernel_rfl) t0_1
  cases q0_1
  have bk0_1 := bulkRow kTraceTells26 t0_1
  obtain ⟨b1_1, n1_1, d1_1, xs1_1, q1_1, ro1_1, hc1_1, hn1_1, hx1_1⟩ := Acq.open_row (k := .i64) kTraceTells26 kTraceTells2 (by kernel_rfl) t1_1
  cases q1_1
  have bk1_1 := bulkRow kTraceTells26 t1_1
  obtain ⟨b2_1, n2_1, d2_1, xs2_1, q2_1, ro2_1, hc2_1, hn2_1, hx2_1⟩ := Acq.open_row (k := .i64) kTraceTells25 kTraceTells3 (by kernel_rfl) t2_1
  cases q2_1
  have bk2_1 := bulkRow kTraceTells25 t2_1
  obtain ⟨v0_2, v1_2, v2_2, y0_2, y1_2, y2_2, m_2, rfl, rfl, _, t0_2, t1_2, t2_2⟩ := Joins.open_agg3 Tryz.underlying53 (by kernel_rfl) (by kernel_rfl) (hval 2 53 _ rfl rfl) h2
  obtain ⟨b0_2, n0_2, d0_2, xs0_2, q0_2, ro0_2, hc0_2, hn0_2, hx0_2⟩ := Acq.open_row (k := .i64) kTraceTells26 kTraceTells2 (by kernel_rfl) t0_2
  cases q0_2
  have bk0_2 := bulkRow kTraceTells26 t0_2
  obtain ⟨b1_2, n1_2, d1_2, xs1_2, q1_2, ro1_2, hc1_2, hn1_2, hx1_2⟩ := Acq.open_row (k := .i64) kTraceTells26 kTraceTells2 (by kernel_rfl) t1_2
  cases q1_2
  have bk1_2 := bulkRow kTraceTells26 t1_2
  obtain ⟨b2_2, n2_2, d2_2, xs2_2, q2_2, ro2_2, hc2_2, hn2_2, hx2_2⟩ := Acq.open_row (k := .i64) kTraceTells25 kTraceTells3 (by kernel_rfl) t2_2
  cases q2_2
  have bk2_2 := bulkRow kTraceTells25 t2_2
  obtain ⟨a3, l3, c3, rfl⟩ := okWide_slice kTraceTells68 (hval 3 68 _ rfl rfl)
  obtain ⟨f3, hf3⟩ := h3
  obtain ⟨b3, n3, d3, al3, q3, ro3, hc3, hn3⟩ := Acq.open_evts kTraceTells68 Tryz.underlying40 rfl (by kernel_rfl) (by kernel_rfl) kTraceTells3 kTraceTells5 kTraceTells3 kTraceTells3 kTraceTells2 kTraceTells3 kTraceTells3 hf3
  cases q3
  obtain ⟨x4, rfl⟩ := okWide_int kTraceTells3 (hval 4 3 _ rfl rfl)
  obtain ⟨f4, hf4⟩ := h4
  obtain ⟨z4, e4, _, wf4⟩ := DataW.trod_int kTraceTells3 hf4
  obtain rfl : x4 = z4 := by injection e4 with e4 _; injection e4
  simp only [Rows.uptoSmall, decide_eq_true_eq, List.append_nil, List.cons_append, List.nil_append, Rows.uptoBulkAll, Rows.uptoBulk] at hbulk
  clear hA0 hval0
  refine Calls.mono (Ax.w_acequialaw18_TraceTells (n0 := (Acq.Net.mk z0_0 z1_0 z2_0 al0)) (p1 := (Acq.Pre.mk xs0_1 xs1_1 xs2_1)) (end2 := (Acq.Pre.mk xs0_2 xs1_2 xs2_2)) (l3 := al3) (workers4 := x4) W (⟨ro0, fun _ _ _ => by simp, hc0⟩ : Acq.RS W [] _ _ _ _ _ _) (⟨ro0_1, fun _ _ _ => by simp, hc0_1⟩ : Acq.RS W [] _ _ _ _ _ _) (⟨ro1_1, fun _ _ _ => by simp, hc1_1⟩ : Acq.RS W [] _ _ _ _ _ _) (⟨ro2_1, fun _ _ _ => by simp, hc2_1⟩ : Acq.RS W [] _ _ _ _ _ _) (⟨ro0_2, fun _ _ _ => by simp, hc0_2⟩ : Acq.RS W [] _ _ _ _ _ _) (⟨ro1_2, fun _ _ _ => by simp, hc1_2⟩ : Acq.RS W [] _ _ _ _ _ _) (⟨ro2_2, fun _ _ _ => by simp, hc2_2⟩ : Acq.RS W [] _ _ _ _ _ _) (⟨ro3, fun _ _ _ => by simp, hc3⟩ : Acq.RS W [] _ _ _ _ _ _) (r0 := true) (Acq.p_TraceTells ⟨Acq.i64ok_wf w0_0, Acq.i64ok_wf w1_0, Acq.i64ok_wf w2_0, fun a ha => ⟨(hx0 a ha).1, (hx0 a ha).2.1, (hx0 a ha).2.2⟩, by show al0.length ≤ _; have := ro0.len; omega⟩ (show xs0_1.length ≤ 1048576 by have := ro0_1.len; omega) (show xs1_1.length ≤ 1048576 by have := ro1_1.len; omega) (show xs2_1.length ≤ 1048576 by have := ro2_1.len; omega) (fun y hy => Acq.i64ok_wf (hx1_1 y hy)))) fun e W' he => ?_
  obtain ⟨v, N, ⟨rfl, rfl⟩, he', hi⟩ := he
  have bel := hi.below
  subst he'
  exact ⟨_, rfl, _, _, _, [], _, [], hW', trodAll_mk1 (shut_bool kTraceTells4 _), (trodAll_cons_mk (Below.trod laidTraceTells (by kernel_rfl) (of_decide_eq_true (by kernel_rfl)) k0 bel lt0) (trodAll_cons_mk (Below.trod laidTraceTells (by kernel_rfl) (of_decide_eq_true (by kernel_rfl)) k1 bel lt1) (trodAll_cons_mk (Below.trod laidTraceTells (by kernel_rfl) (of_decide_eq_true (by kernel_rfl)) k2 bel lt2) (trodAll_cons_mk (Below.trod laidTraceTells (by kernel_rfl) (of_decide_eq_true (by kernel_rfl)) k3 bel lt3) (trodAll_cons_mk (Below.trod laidTraceTells (by kernel_rfl) (of_decide_eq_true (by kernel_rfl)) k4 bel lt4) trodAll_mk0))))), rfl, bel.frame _, fun h => by cases h⟩
theorem traceTells_holds : Rows.TraceTellsUptoSaid :=
 OpenClaim.holds_of_cond 9 Tryz.f9 rfl rfl rfl rfl rfl rfl rfl ⟨rfl, rfl, rfl, rfl, rfl⟩ rfl rfl rfl rfl rfl (by kernel_rfl) Tryz.func9 jFTraceTells
  (of_decide_eq_true (by kernel_rfl)) (by unfold Func.isWrapper; first | (rw [if_pos (by decide +kernel)]; kernel_rfl) | (rw [if_neg (by decide +kernel)]; exact ⟨rfl, rfl⟩))
  (fun os started H enc _ F0 => lifted_traceTells os started H enc F0)
end Go.Proofs.YtobnnpdfeakbbaaGreat
