/- What a call does is what its model says: acequialaw03.FlowAdds, api.Arc], net.Copy. (Printed by sx.py.) -/
import Derived.Test.YtcdbemdogkmahaaAcqMLFlowAdds
import Derived.Test.YtcdbemdogkmahaaAcqMaps
import Derived.Test.YtcdbemdogkmahaaAcqWS3
namespace Go.Proofs.Ytcdbemdogkmahaa.Ax
open Go Go.Acq Go.RowKit Go.Proofs
set_option linter.unusedVariables false
set_option linter.unusedSimpArgs false
set_option maxHeartbeats 8000000
theorem TWLFlowAdds.a24 : aggT Try.prog 24 4 = true := by kernel_rfl
theorem TWLFlowAdds.b2 : bytesT Try.prog 2 = some 8 := by kernel_rfl
theorem TWLFlowAdds.b28 : bytesT Try.prog 28 = some 24 := by kernel_rfl
theorem TWLFlowAdds.c17 : callable Try.prog 17 = true := by kernel_rfl
theorem TWLFlowAdds.c18 : callable Try.prog 18 = true := by kernel_rfl
theorem TWLFlowAdds.c27 : callable Try.prog 27 = true := by kernel_rfl
theorem TWLFlowAdds.c30 : callable Try.prog 30 = true := by kernel_rfl
theorem TWLFlowAdds.c31 : callable Try.prog 31 = true := by kernel_rfl
theorem TWLFlowAdds.c32 : callable Try.prog 32 = true := by kernel_rfl
theorem TWLFlowAdds.c36 : callable Try.prog 36 = true := by kernel_rfl
theorem TWLFlowAdds.c65 : callable Try.prog 65 = true := by kernel_rfl
theorem TWLFlowAdds.f24_3 : fieldT Try.prog 24 3 = some 3 := by kernel_rfl
theorem TWLFlowAdds.f28_2 : fieldT Try.prog 28 2 = some 2 := by kernel_rfl
theorem TWLFlowAdds.l22 : sliceT Try.prog 22 = some 28 := by kernel_rfl
theorem TWLFlowAdds.l25 : sliceT Try.prog 25 = some 2 := by kernel_rfl
theorem TWLFlowAdds.n2 : sizeT Try.prog 2 = some 1 := by kernel_rfl
theorem TWLFlowAdds.n22 : sizeT Try.prog 22 = some 1 := by kernel_rfl
theorem TWLFlowAdds.n24 : sizeT Try.prog 24 = some 4 := by kernel_rfl
theorem TWLFlowAdds.n28 : sizeT Try.prog 28 = some 3 := by kernel_rfl
theorem TWLFlowAdds.s2 : scalT Try.prog 2 = true := by kernel_rfl
theorem TWLFlowAdds.s22 : scalT Try.prog 22 = true := by kernel_rfl
theorem TWLFlowAdds.u4 : Try.prog.underlying 4 = some .bool := by kernel_rfl
theorem TWLFlowAdds.z2 : zeroT Try.prog 2 = some (.int .i64 0) := by kernel_rfl
theorem TWLFlowAdds.z24 : zeroT Try.prog 24 = some (.agg #[.int .i64 0, .int .i64 0, .int .i64 0, .slice none 0 0]) := by kernel_rfl
theorem TWLFlowAdds.z28 : zeroT Try.prog 28 = some (.agg #[.int .i64 0, .int .i64 0, .int .i64 0]) := by kernel_rfl
theorem TWLFlowAddsel22 : ElemT Try.prog 22 28 3 24 (.agg #[.int .i64 0, .int .i64 0, .int .i64 0]) := ⟨TWLFlowAdds.l22, TWLFlowAdds.n28, TWLFlowAdds.b28, TWLFlowAdds.z28, rfl⟩
theorem TWLFlowAddsel25 : ElemT Try.prog 25 2 1 8 (.int .i64 0) := ⟨TWLFlowAdds.l25, TWLFlowAdds.n2, TWLFlowAdds.b2, TWLFlowAdds.z2, rfl⟩
/-- slices.Clone[[]acequia/api.Arc,acequia/api.Arc] -/
theorem w_slices_Clone_Arc {s0 : List Arc} {s0_b : Option Addr} {s0_n : Nat} {s0_c : Nat} (w : World) (h_s0 : RS w [] arcC 3 s0_b s0_n s0_c s0) {r0 : List Arc} (H : m_slices_Clone_Arc s0 = some r0) : Fnc Try.prog 65 #[.slice s0_b s0_n s0_c] w [] (fun v N => ∃ (ob_0 : Option Nat) (n_0 : Nat) (c_0 : Nat) (j_0 : List Value), v = .slice (sb ob_0) n_0 c_0 ∧ N = [(ob_0, .cells (arr arcC r0 j_0).toArray 28 (0, 0))] ∧ r0.length = n_0 ∧ n_0 ≤ c_0 ∧ j_0.length = (c_0 - n_0) * 3 ∧ (ob_0 = none → c_0 = 0)) := by
  unfold m_slices_Clone_Arc at H
  refine Fnc.enter (vs := [.slice s0_b s0_n s0_c]) Try.func65 rfl rfl (Inv.refl w) ?_
  refine T.seq ?_
  refine T.regionL (ll := [0]) rfl ?_
  refine TO.assign rfl rfl rfl rfl ?_
  refine TO.done ?_
  refine X.seq_normal ?_
  refine T.seq ?_
  refine T.seq ?_
  by_cases g1 : s0_b = none
  ·
    have hx : s0 = [] := List.eq_nil_of_length_eq_zero (by rw [h_s0.len, h_s0.ro.nil g1])
    have H : (some ([])) = some r0 := by
      simp only [hx] at H ⊢
      first | exact H | exact (gd_some H).2
    refine T.regionL (ll := [0, 1]) rfl ?_
    refine TO.move rfl rfl rfl rfl ?_
    refine TO.eqnil rfl rfl rfl rfl rfl TWLFlowAdds.l22 ?_
    refine TO.decB (t := 4) (b' := true) rfl (by rw [g1]; rfl) ?_
    refine TO.done ?_
    refine X.seq_normal ?_
    refine T.condT rfl rfl ?_
    refine T.seq ?_
    refine T.regionL (ll := [0]) rfl ?_
    refine TO.assign rfl rfl rfl rfl ?_
    refine TO.done ?_
    refine X.seq_normal ?_
    refine T.ret ?_
    refine X.then_ret ?_
    obtain rfl := ret1 H
    exact X.ret1 rfl rfl rfl rfl (Res.tmp rfl) (Pick.none Pick.nil) ⟨none, 0, 0, ([]), rfl, rfl, rfl, (Nat.le_refl _), (zeroJ 0 _), (fun _ => rfl)⟩
  ·
    refine T.regionL (ll := [0, 1]) rfl ?_
    refine TO.move rfl rfl rfl rfl ?_
    refine TO.eqnil rfl rfl rfl rfl rfl TWLFlowAdds.l22 ?_
    refine TO.decB (t := 4) (b' := false) rfl (Option.isNone_eq_false_iff.2 (Option.isSome_iff_ne_none.2 g1)) ?_
    refine TO.done ?_
    refine X.seq_normal ?_
    refine T.condF rfl rfl ?_
    refine T.skip ?_
    refine X.seq_normal ?_
    refine T.seq ?_
    obtain ⟨g4, H⟩ := gd_some H
    refine T.regionL (ll := [0, 1, 2, 3]) rfl ?_
    refine TO.buildNone rfl rfl rfl TWLFlowAdds.l22 TWLFlowAdds.n28 ?_; intro b2
    refine TO.move rfl rfl rfl rfl ?_
    refine TO.app (f := arcC) (s := 3) (xs := ([] : List Arc)) (ob := some b2) (j := ([])) (ys := s0) (fun _ => rfl) (fun _ => rfl) TWLFlowAddsel22 g4 rfl rfl rfl rfl rfl (Take.head _ _) rfl (Nat.le_refl _) (zeroJ 0 _) someZ (fun wc hwc => (h_s0.mono hwc)) ?_; intro ob5 c6 j7 hc8 hj9 hz10
    refine TO.assign rfl rfl rfl rfl ?_
    refine TO.done ?_
    refine X.seq_normal ?_
    refine T.ret ?_
    obtain rfl := ret1 H
    exact X.ret1 rfl rfl rfl rfl (Res.tmp rfl) (Pick.cons (Take.head _ _) Pick.nil) ⟨ob5, (0 + s0_n), c6, j7, rfl, rfl, (lenApp0 h_s0.len), hc8, hj9, hz10⟩
/-- acequia/net.Copy -/
theorem w_net_Copy {n0 : Net} {n0_Arcs_b : Option Addr} {n0_Arcs_n : Nat} {n0_Arcs_c : Nat} (w : World) (h_n0_Arcs : RS w [] arcC 3 n0_Arcs_b n0_Arcs_n n0_Arcs_c n0.Arcs) {r0 : Net} (H : m_net_Copy n0 = some r0) : Fnc Try.prog 36 #[.agg #[.int .i64 n0.N, .int .i64 n0.S, .int .i64 n0.T, .slice n0_Arcs_b n0_Arcs_n n0_Arcs_c]] w [] (fun v N => ∃ (ob_0 : Option Nat) (n_0 : Nat) (c_0 : Nat) (j_0 : List Value), v = .agg #[.int .i64 r0.N, .int .i64 r0.S, .int .i64 r0.T, .slice (sb ob_0) n_0 c_0] ∧ N = [(ob_0, .cells (arr arcC r0.Arcs j_0).toArray 28 (0, 0))] ∧ r0.Arcs.length = n_0 ∧ n_0 ≤ c_0 ∧ j_0.length = (c_0 - n_0) * 3 ∧ (ob_0 = none → c_0 = 0)) := by
  unfold m_net_Copy at H
  refine Fnc.enter (vs := [.agg #[.int .i64 n0.N, .int .i64 n0.S, .int .i64 n0.T, .slice n0_Arcs_b n0_Arcs_n n0_Arcs_c]]) Try.func36 rfl rfl (Inv.refl w) ?_
  refine T.seq ?_
  refine T.regionL (ll := [0, 1]) rfl ?_
  refine TO.boxA rfl rfl rfl rfl ?_; intro b1
  refine TO.allocA rfl rfl rfl TWLFlowAdds.z24 ?_; intro b3
  refine TO.done ?_
  refine X.seq_normal ?_
  refine T.seq ?_
  obtain ⟨r5, e6, H⟩ := bd_some H
  refine T.regionL (ll := [0, 1, 2, 3, 4]) rfl ?_
  refine TO.fieldAddr0 rfl rfl rfl rfl TWLFlowAdds.f24_3 ?_
  refine TO.load1 rfl rfl rfl rfl TWLFlowAdds.s22 (List.Mem.tail _ (List.Mem.head _)) rfl ?_
  refine TO.callX TWLFlowAdds.c65 rfl rfl rfl rfl (fun wc hwc => w_slices_Clone_Arc (s0 := n0.Arcs) wc (h_n0_Arcs.mono hwc) e6) ?_
  rintro _ _ ⟨ob7, n8, c9, j10, rfl, rfl, hn11, hc12, hj13, hz14⟩
  refine TO.fieldAddr0 rfl rfl rfl rfl TWLFlowAdds.f24_3 ?_
  refine TO.store1n (cs' := [.int .i64 n0.N, .int .i64 n0.S, .int .i64 n0.T, .slice (sb ob7) n8 c9]) rfl rfl rfl rfl (Take.tail (Take.tail (Take.head _ _))) TWLFlowAdds.n22 rfl rfl rfl ?_
  refine TO.done ?_
  refine X.seq_normal ?_
  refine T.seq ?_
  refine T.regionL (ll := [0, 1]) rfl ?_
  refine TO.loadA rfl rfl rfl rfl TWLFlowAdds.a24 (List.Mem.head _) rfl ?_
  refine TO.storeA rfl rfl rfl rfl (Take.tail (Take.tail (Take.head _ _))) TWLFlowAdds.n24 rfl rfl rfl ?_
  refine TO.done ?_
  refine X.seq_normal ?_
  refine T.ret ?_
  obtain rfl := ret1 H
  exact X.ret1 rfl rfl rfl rfl (Res.cellA rfl TWLFlowAdds.a24 (List.Mem.head _) rfl) (Pick.cons (Take.tail (Take.tail (Take.head _ _))) Pick.nil) ⟨ob7, n8, c9, j10, rfl, rfl, hn11, hc12, hj13, hz14⟩
/-- acequia/acequialaw03.FlowAdds -/
theorem w_acequialaw03_FlowAdds {n0 : Net} {l1 : List Int} {m2 : List Int} {n0_Arcs_b : Option Addr} {n0_Arcs_n : Nat} {n0_Arcs_c : Nat} {l1_b : Option Addr} {l1_n : Nat} {l1_c : Nat} {m2_b : Option Addr} {m2_n : Nat} {m2_c : Nat} (w : World) (h_n0_Arcs : RS w [] arcC 3 n0_Arcs_b n0_Arcs_n n0_Arcs_c n0.Arcs) (h_l1 : RS w [] (intC .i64) 1 l1_b l1_n l1_c l1) (h_m2 : RS w [] (intC .i64) 1 m2_b m2_n m2_c m2) {r0 : Bool} (H : m_acequialaw03_FlowAdds n0 l1 m2 = some r0) : Fnc Try.prog 9 #[.agg #[.int .i64 n0.N, .int .i64 n0.S, .int .i64 n0.T, .slice n0_Arcs_b n0_Arcs_n n0_Arcs_c], .slice l1_b l1_n l1_c, .slice m2_b m2_n m2_c] w [] (fun v N => v = .bool r0 ∧ N = []) := by
  unfold m_acequialaw03_FlowAdds at H
  refine Fnc.enter (vs := [.agg #[.int .i64 n0.N, .int .i64 n0.S, .int .i64 n0.T, .slice n0_Arcs_b n0_Arcs_n n0_Arcs_c], .slice l1_b l1_n l1_c, .slice m2_b m2_n m2_c]) Try.func9 rfl rfl (Inv.refl w) ?_
  refine T.seq ?_
  refine T.regionL (ll := [0, 1]) rfl ?_
  refine TO.boxA rfl rfl rfl rfl ?_; intro b1
  refine TO.assign rfl rfl rfl rfl ?_
  refine TO.done ?_
  refine X.seq_normal ?_
  refine T.seq ?_
  obtain ⟨r3, e4, H⟩ := bd_some H
  refine T.regionL (ll := [0, 1, 2]) rfl ?_
  refine TO.loadA rfl rfl rfl rfl TWLFlowAdds.a24 (List.Mem.head _) rfl ?_
  refine TO.callX TWLFlowAdds.c17 rfl rfl rfl rfl (fun wc hwc => w_acequialow_Some (n0 := n0) (verts1 := 40) (arcs2 := 80) wc (h_n0_Arcs.mono hwc) e4) ?_
  rintro _ _ ⟨ob5, n6, c7, j8, rfl, rfl, hn9, hc10, hj11, hz12⟩
  refine TO.storeA rfl rfl rfl rfl (Take.tail (Take.head _ _)) TWLFlowAdds.n24 rfl rfl rfl ?_
  refine TO.done ?_
  refine X.seq_normal ?_
  refine T.seq ?_
  obtain ⟨r14, e15, H⟩ := bd_some H
  refine T.regionL (ll := [0, 1, 2, 3]) rfl ?_
  refine TO.loadA rfl rfl rfl rfl TWLFlowAdds.a24 (List.Mem.head _) rfl ?_
  refine TO.callX TWLFlowAdds.c36 rfl rfl rfl rfl (fun wc hwc => w_net_Copy (n0 := r3) wc (hwc.rs (f := arcC) (s := 3) (xs := r3.Arcs) (j := j8) (fun _ => rfl) (List.Mem.tail _ (List.Mem.head _)) hn9 hc10 hz12) e15) ?_
  rintro _ _ ⟨ob16, n17, c18, j19, rfl, rfl, hn20, hc21, hj22, hz23⟩
  refine TO.allocA rfl rfl rfl TWLFlowAdds.z24 ?_; intro b25
  refine TO.storeA rfl rfl rfl rfl (Take.head _ _) TWLFlowAdds.n24 rfl rfl rfl ?_
  refine TO.done ?_
  refine X.seq_normal ?_
  refine T.seq ?_
  refine T.seq ?_
  refine T.regionL (ll := [0, 1, 2, 3]) rfl ?_
  refine TO.fieldAddr0 rfl rfl rfl rfl TWLFlowAdds.f24_3 ?_
  refine TO.load1 rfl rfl rfl rfl TWLFlowAdds.s22 (List.Mem.head _) rfl ?_
  refine TO.lenX (xs := r14.Arcs) hn20 rfl rfl rfl rfl rfl TWLFlowAdds.l22 ?_
  refine TO.move rfl rfl rfl rfl ?_
  refine TO.done ?_
  refine X.seq_normal ?_
  refine T.meetSE1 (fun (xs35 : List Arc) => m_acequialaw03_FlowAdds_j2 l1 m2 r3 r14 xs35 = some r0 ∧ xs35.length = n17) (fun (xs35 : List Arc) => [(1, .slice l1_b l1_n l1_c), (2, .slice m2_b m2_n m2_c), (3, .pointer (some ⟨b1, 0, none⟩)), (7, .pointer (some ⟨b25, 0, none⟩))]) (fun (xs35 : List Arc) => [(some b1, .cells #[.int .i64 r3.N, .int .i64 r3.S, .int .i64 r3.T, .slice (sb ob5) n6 c7] 24 (0, 0)), (ob5, .cells (arr arcC r3.Arcs j8).toArray 28 (0, 0)), (some b25, .cells #[.int .i64 r14.N, .int .i64 r14.S, .int .i64 r14.T, .slice (sb ob16) n17 c18] 24 (0, 0)), (ob16, .cells (arr arcC xs35 j19).toArray 28 (0, 0))]) ?_ ?_
  ·
    refine T.block ?_
    obtain ⟨o_1, e_1, K_1⟩ := bd_some H
    refine T.loopE3 (fun (m_1 : Nat) (xs27 : List Arc) (x29 : Int) => loopM (fun s => m_acequialaw03_FlowAdds_s1 r14 s.1 s.2) m_1 (xs27, x29) = some o_1 ∧ xs27.length = n17) (fun (m_1 : Nat) (xs27 : List Arc) (x29 : Int) => [(1, .slice l1_b l1_n l1_c), (2, .slice m2_b m2_n m2_c), (3, .pointer (some ⟨b1, 0, none⟩)), (7, .pointer (some ⟨b25, 0, none⟩)), (26, .int .i64 (r14.Arcs.length : Int)), (27, .int .i64 x29)]) (fun (m_1 : Nat) (xs27 : List Arc) (x29 : Int) => [(some b1, .cells #[.int .i64 r3.N, .int .i64 r3.S, .int .i64 r3.T, .slice (sb ob5) n6 c7] 24 (0, 0)), (ob5, .cells (arr arcC r3.Arcs j8).toArray 28 (0, 0)), (some b25, .cells #[.int .i64 r14.N, .int .i64 r14.S, .int .i64 r14.T, .slice (sb ob16) n17 c18] 24 (0, 0)), (ob16, .cells (arr arcC xs27 j19).toArray 28 (0, 0))]) (fun (m_1 : Nat) (xs27 : List Arc) (x29 : Int) => m_1) FUEL r14.Arcs 0 ⟨e_1, hn20⟩ (AllF.cons rfl (AllF.cons rfl (AllF.cons rfl (AllF.cons rfl (AllF.cons rfl (AllF.cons rfl AllF.nil)))))) (Pick.cons (Take.tail (Take.tail (Take.head _ _))) (Pick.cons (Take.tail (Take.tail (Take.head _ _))) (Pick.cons (Take.head _ _) (Pick.cons (Take.head _ _) Pick.nil)))) ?_
    rintro m_1 xs27 x29 ⟨H, hn28⟩
    obtain ⟨n_1, r_1, rfl, H, C_1⟩ := loopM_some H
    have H : m_acequialaw03_FlowAdds_s1 r14 xs27 x29 = some r_1 := H
    unfold m_acequialaw03_FlowAdds_s1 at H
    refine T.seq ?_
    refine T.regionL (ll := [0]) rfl ?_
    refine TO.bin rfl rfl rfl rfl rfl rfl ?_
    refine TO.done ?_
    refine X.seq_normal ?_
    refine T.seq ?_
    rcases ite_some H with ⟨g30, H⟩ | ⟨g30, H⟩
    ·
      refine T.condPT rfl g30 ?_
      refine T.skip ?_
      refine X.seq_normal ?_
      refine T.seq ?_
      refine T.block ?_
      refine T.seq ?_
      refine T.regionL (ll := [0, 1]) rfl ?_
      refine TO.move rfl rfl rfl rfl ?_
      refine TO.assign rfl rfl rfl rfl ?_
      refine TO.done ?_
      refine X.seq_normal ?_
      obtain ⟨g31, H⟩ := gd_some H
      obtain ⟨g32, H⟩ := gd_some H
      obtain ⟨g33, H⟩ := gd_some H
      refine T.regionL (ll := [0, 1, 2, 3, 4, 5, 6, 7, 8, 9]) rfl ?_
      refine TO.fieldAddr0 rfl rfl rfl rfl TWLFlowAdds.f24_3 ?_
      refine TO.load1 rfl rfl rfl rfl TWLFlowAdds.s22 (List.Mem.tail _ (List.Mem.tail _ (List.Mem.head _))) rfl ?_
      refine TO.move rfl rfl rfl rfl ?_
      refine TO.ixV hz23 hc21 hn28 g31 rfl rfl rfl rfl rfl TWLFlowAdds.l22 TWLFlowAdds.n28 ?_
      refine TO.faR rfl rfl rfl rfl TWLFlowAdds.f28_2 ?_
      refine TO.ldFV (f := arcC) (v := .int .i64 ((xs27.getD x29.toNat default).cap)) default (fun _ => rfl) hz23 hc21 hn28 g31 rfl rfl rfl rfl rfl TWLFlowAdds.s2 (List.Mem.tail _ (List.Mem.tail _ (List.Mem.tail _ (List.Mem.head _)))) ?_
      refine TO.quoG g32 rfl rfl rfl rfl rfl ?_
      refine TO.ixV hz23 hc21 hn28 g33 rfl rfl rfl rfl rfl TWLFlowAdds.l22 TWLFlowAdds.n28 ?_
      refine TO.faR rfl rfl rfl rfl TWLFlowAdds.f28_2 ?_
      refine TO.stFV (f := arcC) (u := (Arc.mk ((xs27.getD x29.toNat default).fr) ((xs27.getD x29.toNat default).to) (((xs27.getD x29.toNat default).cap).tdiv 2))) default (fun _ => rfl) rfl hz23 hc21 hn28 g33 rfl rfl rfl rfl rfl rfl (Take.tail (Take.tail (Take.tail (Take.head _ _)))) TWLFlowAdds.n2 ?_
      refine TO.done ?_
      refine X.block_normal ?_
      refine X.seq_normal ?_
      obtain ⟨g34, H⟩ := gd_some H
      refine T.regionL (ll := [0, 1]) rfl ?_
      refine TO.addG g34 rfl rfl rfl rfl rfl ?_
      refine TO.move rfl rfl rfl rfl ?_
      refine TO.done ?_
      have H := loop_next H C_1
      exact X.againE3 n_1 (xs27.set x29.toNat (Arc.mk ((xs27.getD x29.toNat default).fr) ((xs27.getD x29.toNat default).to) (((xs27.getD x29.toNat default).cap).tdiv 2))) (x29 + 1) ⟨H, (List.length_set.trans hn28)⟩ (Nat.lt_succ_self _) (AllF.cons rfl (AllF.cons rfl (AllF.cons rfl (AllF.cons rfl (AllF.cons rfl (AllF.cons rfl AllF.nil)))))) (Pick.cons (Take.tail (Take.head _ _)) (Pick.cons (Take.tail (Take.head _ _)) (Pick.cons (Take.tail (Take.head _ _)) (Pick.cons (Take.head _ _) Pick.nil))))
    ·
      refine T.condPF rfl g30 ?_
      refine T.exit ?_
      refine X.then_exit ?_
      have H := loop_exitE H C_1 ▸ K_1
      refine X.then_exit ?_
      refine X.block_here ?_
      exact X.metE1 xs27 ⟨H, hn28⟩ (AllF.cons rfl (AllF.cons rfl (AllF.cons rfl (AllF.cons rfl AllF.nil)))) (Pick.cons (Take.head _ _) (Pick.cons (Take.head _ _) (Pick.cons (Take.head _ _) (Pick.cons (Take.head _ _) Pick.nil))))
  · rintro xs35 ⟨H, hn36⟩
    unfold m_acequialaw03_FlowAdds_j2 at H
    refine T.seq ?_
    obtain ⟨r37, e38, H⟩ := bd_some H
    obtain ⟨r48, e49, H⟩ := bd_some H
    apply T.drawL [⟨[], false, relV _⟩, ⟨[], false, relV _⟩, ⟨[0, 1], false, fun _ v e => ∃ (ob39 : Option Nat) (n40 : Nat) (c41 : Nat) (j42 : List Value), v = .slice (sb ob39) n40 c41 ∧ e = [(ob39, .cells (arr (intC .i64) r37 j42).toArray 2 (0, 0))] ∧ r37.length = n40 ∧ n40 ≤ c41 ∧ j42.length = (c41 - n40) * 1 ∧ (ob39 = none → c41 = 0)⟩, ⟨[], false, relV _⟩, ⟨[], false, relV _⟩] [40, 41, 42, 43, 44] 5 (HRk [[]]) [[]] [] [(some b1, .cells #[.int .i64 r3.N, .int .i64 r3.S, .int .i64 r3.T, .slice (sb ob5) n6 c7] 24 (0, 0)), (ob5, .cells (arr arcC r3.Arcs j8).toArray 28 (0, 0)), (some b25, .cells #[.int .i64 r14.N, .int .i64 r14.S, .int .i64 r14.T, .slice (sb ob16) n17 c18] 24 (0, 0)), (ob16, .cells (arr arcC xs35 j19).toArray 28 (0, 0))]
    · exact mixed
    · exact rfl
    · kernel_rfl
    · kernel_rfl
    · kernel_rfl
    · exact rfl
    · exact rfl
    · exact rfl
    · exact rfl
    · exact (by repeat (first | exact Pick.refl _ | exact Pick.nil | apply Pick.none | refine Pick.cons (by repeat (first | exact Take.head _ _ | apply Take.tail)) ?_))
    · refine ⟨?_, ?_, ?_, ?_, ?_, trivial⟩
      · rintro vs es Es Hx -
        refine TO.reenv (D := []) rfl ?_
        refine TO.loadA rfl rfl rfl rfl TWLFlowAdds.a24 (List.Mem.tail _ (List.Mem.tail _ (List.Mem.head _))) rfl ?_
        refine TO.done ?_; exact X.obQ rfl ⟨rfl, rfl⟩ (Pick.refl _) rfl
      · rintro vs es Es Hx -
        refine TO.reenv (D := []) rfl ?_
        refine TO.move rfl rfl rfl rfl ?_
        refine TO.done ?_; exact X.obQ rfl ⟨rfl, rfl⟩ (Pick.refl _) rfl
      · rintro vs es Es Hx ⟨⟨h_0, e_0⟩, ⟨h_1, e_1⟩, -⟩
        refine TO.reenv (D := [(40, vs 0), (41, vs 1)]) rfl ?_; rw [h_0, h_1]
        refine TO.callX TWLFlowAdds.c18 rfl rfl rfl rfl (fun wc hwc => w_acequialow_Within (n0 := (Net.mk r14.N r14.S r14.T xs35)) (l1 := l1) wc (hwc.rs (f := arcC) (s := 3) (xs := xs35) (j := j19) (fun _ => rfl) (List.Mem.tail _ (List.Mem.tail _ (List.Mem.tail _ (List.Mem.head _)))) hn36 hc21 hz23) (h_l1.mono hwc) e38) ?_
        rintro _ _ ⟨ob39, n40, c41, j42, rfl, rfl, hn43, hc44, hj45, hz46⟩
        refine TO.done ?_; exact X.obQ rfl ⟨ob39, n40, c41, j42, rfl, rfl, hn43, hc44, hj45, hz46⟩ (by repeat (first | exact Pick.refl _ | exact Pick.nil | apply Pick.none | refine Pick.cons (by repeat (first | exact Take.head _ _ | apply Take.tail)) ?_)) (by show [(40, vs 0), (41, vs 1)] = _; rw [h_0, h_1])
      · rintro vs es Es Hx -
        refine TO.reenv (D := []) rfl ?_
        refine TO.loadA rfl rfl rfl rfl TWLFlowAdds.a24 (List.Mem.tail _ (List.Mem.tail _ (List.Mem.head _))) rfl ?_
        refine TO.done ?_; exact X.obQ rfl ⟨rfl, rfl⟩ (Pick.refl _) rfl
      · rintro vs es Es Hx -
        refine TO.reenv (D := []) rfl ?_
        refine TO.move rfl rfl rfl rfl ?_
        refine TO.done ?_; exact X.obQ rfl ⟨rfl, rfl⟩ (Pick.refl _) rfl
    · rintro vs es hb ⟨⟨h_0, e_0⟩, ⟨h_1, e_1⟩, ⟨ob39, n40, c41, j42, h_2, e_2, hn43, hc44, hj45, hz46⟩, ⟨h_3, e_3⟩, ⟨h_4, e_4⟩, -⟩ hHR
      obtain rfl : hb = [] := hHR
      refine TO.reenv (D := [(40, vs 0), (41, vs 1), (42, vs 2), (43, vs 3), (44, vs 4)]) rfl ?_
      refine TO.reheap (H := [(some b1, .cells #[.int .i64 r3.N, .int .i64 r3.S, .int .i64 r3.T, .slice (sb ob5) n6 c7] 24 (0, 0)), (ob5, .cells (arr arcC r3.Arcs j8).toArray 28 (0, 0)), (some b25, .cells #[.int .i64 r14.N, .int .i64 r14.S, .int .i64 r14.T, .slice (sb ob16) n17 c18] 24 (0, 0)), (ob16, .cells (arr arcC xs35 j19).toArray 28 (0, 0)), (ob39, .cells (arr (intC .i64) r37 j42).toArray 2 (0, 0))]) (by show _ ++ (_ ++ (es 0 ++ (es 1 ++ (es 2 ++ (es 3 ++ (es 4 ++ ([]))))))) = _; rw [e_0, e_1, e_2, e_3, e_4]; rfl) ?_
      rw [h_0, h_1, h_2, h_3, h_4]
      clear h_4 h_3 h_2 h_1 h_0 e_0 e_1 e_2 e_3 e_4
      refine TO.callX TWLFlowAdds.c18 rfl rfl rfl rfl (fun wc hwc => w_acequialow_Within (n0 := (Net.mk r14.N r14.S r14.T xs35)) (l1 := m2) wc (hwc.rs (f := arcC) (s := 3) (xs := xs35) (j := j19) (fun _ => rfl) (List.Mem.tail _ (List.Mem.tail _ (List.Mem.tail _ (List.Mem.head _)))) hn36 hc21 hz23) (h_m2.mono hwc) e49) ?_
      rintro _ _ ⟨ob50, n51, c52, j53, rfl, rfl, hn54, hc55, hj56, hz57⟩
      refine TO.assign rfl rfl rfl rfl ?_
      refine TO.assign rfl rfl rfl rfl ?_
      refine TO.done ?_
      refine X.seq_normal ?_
      refine T.seq ?_
      refine T.regionL (ll := [0]) rfl ?_
      refine TO.assign rfl rfl rfl rfl ?_
      refine TO.done ?_
      refine X.seq_normal ?_
      refine T.seq ?_
      refine T.seq ?_
      refine T.regionL (ll := [0, 1, 2]) rfl ?_
      refine TO.move rfl rfl rfl rfl ?_
      refine TO.lenX (xs := r37) hn43 rfl rfl rfl rfl rfl TWLFlowAdds.l25 ?_
      refine TO.move rfl rfl rfl rfl ?_
      refine TO.done ?_
      refine X.seq_normal ?_
      refine T.meetSE5 (fun (both85 : List Int) (n86 : Nat) (c87 : Nat) (ob88 : Option Nat) (j89 : List Value) => m_acequialaw03_FlowAdds_j4 r3 r37 r48 both85 = some r0 ∧ both85.length = n86 ∧ n86 ≤ c87 ∧ j89.length = (c87 - n86) * 1 ∧ (ob88 = none → c87 = 0)) (fun (both85 : List Int) (n86 : Nat) (c87 : Nat) (ob88 : Option Nat) (j89 : List Value) => [(3, .pointer (some ⟨b1, 0, none⟩)), (9, .slice (sb ob39) n40 c41), (10, .slice (sb ob50) n51 c52), (11, .slice (sb ob88) n86 c87)]) (fun (both85 : List Int) (n86 : Nat) (c87 : Nat) (ob88 : Option Nat) (j89 : List Value) => [(some b1, .cells #[.int .i64 r3.N, .int .i64 r3.S, .int .i64 r3.T, .slice (sb ob5) n6 c7] 24 (0, 0)), (ob5, .cells (arr arcC r3.Arcs j8).toArray 28 (0, 0)), (ob39, .cells (arr (intC .i64) r37 j42).toArray 2 (0, 0)), (ob50, .cells (arr (intC .i64) r48 j53).toArray 2 (0, 0)), (ob88, .cells (arr (intC .i64) both85 j89).toArray 2 (0, 0))]) ?_ ?_
      ·
        refine T.block ?_
        obtain ⟨o_3, e_3, K_3⟩ := bd_some H
        refine T.loopE7 (fun (m_3 : Nat) (both59 : List Int) (n60 : Nat) (c61 : Nat) (ob62 : Option Nat) (j63 : List Value) (x69 : Int) => loopM (fun s => m_acequialaw03_FlowAdds_s3 r37 r48 s.1 s.2) m_3 (both59, x69) = some o_3 ∧ both59.length = n60 ∧ n60 ≤ c61 ∧ j63.length = (c61 - n60) * 1 ∧ (ob62 = none → c61 = 0)) (fun (m_3 : Nat) (both59 : List Int) (n60 : Nat) (c61 : Nat) (ob62 : Option Nat) (j63 : List Value) (x69 : Int) => [(3, .pointer (some ⟨b1, 0, none⟩)), (9, .slice (sb ob39) n40 c41), (10, .slice (sb ob50) n51 c52), (11, .slice (sb ob62) n60 c61), (47, .int .i64 (r37.length : Int)), (48, .int .i64 x69)]) (fun (m_3 : Nat) (both59 : List Int) (n60 : Nat) (c61 : Nat) (ob62 : Option Nat) (j63 : List Value) (x69 : Int) => [(some b1, .cells #[.int .i64 r3.N, .int .i64 r3.S, .int .i64 r3.T, .slice (sb ob5) n6 c7] 24 (0, 0)), (ob5, .cells (arr arcC r3.Arcs j8).toArray 28 (0, 0)), (ob39, .cells (arr (intC .i64) r37 j42).toArray 2 (0, 0)), (ob50, .cells (arr (intC .i64) r48 j53).toArray 2 (0, 0)), (ob62, .cells (arr (intC .i64) both59 j63).toArray 2 (0, 0))]) (fun (m_3 : Nat) (both59 : List Int) (n60 : Nat) (c61 : Nat) (ob62 : Option Nat) (j63 : List Value) (x69 : Int) => m_3) FUEL ([]) 0 0 none ([]) 0 ⟨e_3, rfl, (Nat.le_refl _), (zeroJ 0 _), (fun _ => rfl)⟩ (AllF.cons rfl (AllF.cons rfl (AllF.cons rfl (AllF.cons rfl (AllF.cons rfl (AllF.cons rfl AllF.nil)))))) (Pick.cons (Take.tail (Take.head _ _)) (Pick.cons (Take.tail (Take.head _ _)) (Pick.cons (Take.tail (Take.tail (Take.tail (Take.head _ _)))) (Pick.cons (Take.head _ _) (Pick.none Pick.nil))))) ?_
        rintro m_3 both59 n60 c61 ob62 j63 x69 ⟨H, hn64, hc65, hj66, hz67⟩
        obtain ⟨n_3, r_3, rfl, H, C_3⟩ := loopM_some H
        have H : m_acequialaw03_FlowAdds_s3 r37 r48 both59 x69 = some r_3 := H
        unfold m_acequialaw03_FlowAdds_s3 at H
        refine T.seq ?_
        refine T.regionL (ll := [0]) rfl ?_
        refine TO.bin rfl rfl rfl rfl rfl rfl ?_
        refine TO.done ?_
        refine X.seq_normal ?_
        refine T.seq ?_
        rcases ite_some H with ⟨g70, H⟩ | ⟨g70, H⟩
        ·
          refine T.condPT rfl g70 ?_
          refine T.skip ?_
          refine X.seq_normal ?_
          refine T.seq ?_
          refine T.block ?_
          refine T.seq ?_
          refine T.regionL (ll := [0, 1]) rfl ?_
          refine TO.move rfl rfl rfl rfl ?_
          refine TO.assign rfl rfl rfl rfl ?_
          refine TO.done ?_
          refine X.seq_normal ?_
          obtain ⟨g71, H⟩ := gd_some H
          obtain ⟨g72, H⟩ := gd_some H
          obtain ⟨g73, H⟩ := gd_some H
          obtain ⟨g76, H⟩ := gd_some H
          apply T.drawL [⟨[], false, relV _⟩, ⟨[], false, relV _⟩, ⟨[], false, relV _⟩, ⟨[1, 2], false, relV _⟩, ⟨[1, 2, 3], false, relV _⟩, ⟨[], false, relV _⟩, ⟨[], false, relV _⟩, ⟨[5, 6], false, relV _⟩, ⟨[5, 6, 7], false, relV _⟩, ⟨[4, 8], false, relV _⟩, ⟨[9], false, fun _ v e => ∃ (b74 : Nat), v = .slice (some ⟨b74, 0, none⟩) 1 1 ∧ e = [(some b74, .cells (arr (intC .i64) ([((r37.getD x69.toNat 0) + (r48.getD x69.toNat 0))]) ([])).toArray 2 (0, 0))]⟩] [51, 52, 53, 54, 55, 56, 57, 58, 59, 60, 61] 11 (HRk [[]]) [[]] [] [(some b1, .cells #[.int .i64 r3.N, .int .i64 r3.S, .int .i64 r3.T, .slice (sb ob5) n6 c7] 24 (0, 0)), (ob5, .cells (arr arcC r3.Arcs j8).toArray 28 (0, 0)), (ob39, .cells (arr (intC .i64) r37 j42).toArray 2 (0, 0)), (ob50, .cells (arr (intC .i64) r48 j53).toArray 2 (0, 0)), (ob62, .cells (arr (intC .i64) both59 j63).toArray 2 (0, 0))]
          · exact mixed
          · exact rfl
          · kernel_rfl
          · kernel_rfl
          · kernel_rfl
          · exact rfl
          · exact rfl
          · exact rfl
          · exact rfl
          · exact (by repeat (first | exact Pick.refl _ | exact Pick.nil | apply Pick.none | refine Pick.cons (by repeat (first | exact Take.head _ _ | apply Take.tail)) ?_))
          · refine ⟨?_, ?_, ?_, ?_, ?_, ?_, ?_, ?_, ?_, ?_, ?_, trivial⟩
            · rintro vs es Es Hx -
              refine TO.reenv (D := []) rfl ?_
              refine TO.move rfl rfl rfl rfl ?_
              refine TO.done ?_; exact X.obQ rfl ⟨rfl, rfl⟩ (Pick.refl _) rfl
            · rintro vs es Es Hx -
              refine TO.reenv (D := []) rfl ?_
              refine TO.move rfl rfl rfl rfl ?_
              refine TO.done ?_; exact X.obQ rfl ⟨rfl, rfl⟩ (Pick.refl _) rfl
            · rintro vs es Es Hx -
              refine TO.reenv (D := []) rfl ?_
              refine TO.move rfl rfl rfl rfl ?_
              refine TO.done ?_; exact X.obQ rfl ⟨rfl, rfl⟩ (Pick.refl _) rfl
            · rintro vs es Es Hx ⟨⟨h_1, e_1⟩, ⟨h_2, e_2⟩, -⟩
              refine TO.reenv (D := [(52, vs 1), (53, vs 2)]) rfl ?_; rw [h_1, h_2]
              refine TO.ixV hz46 hc44 hn43 g71 rfl rfl rfl rfl rfl TWLFlowAdds.l25 TWLFlowAdds.n2 ?_
              refine TO.done ?_; exact X.obQ rfl ⟨rfl, rfl⟩ (Pick.refl _) (by show [(52, vs 1), (53, vs 2)] = _; rw [h_1, h_2])
            · rintro vs es Es Hx ⟨⟨h_1, e_1⟩, ⟨h_2, e_2⟩, ⟨h_3, e_3⟩, -⟩
              refine TO.reenv (D := [(52, vs 1), (53, vs 2), (54, vs 3)]) rfl ?_; rw [h_1, h_2, h_3]
              refine TO.ldIV hz46 hc44 hn43 g71 rfl rfl rfl rfl TWLFlowAdds.s2 (List.Mem.tail _ (List.Mem.tail _ (List.Mem.head _))) ?_
              refine TO.done ?_; exact X.obQ rfl ⟨rfl, rfl⟩ (Pick.refl _) (by show [(52, vs 1), (53, vs 2), (54, vs 3)] = _; rw [h_1, h_2, h_3])
            · rintro vs es Es Hx -
              refine TO.reenv (D := []) rfl ?_
              refine TO.move rfl rfl rfl rfl ?_
              refine TO.done ?_; exact X.obQ rfl ⟨rfl, rfl⟩ (Pick.refl _) rfl
            · rintro vs es Es Hx -
              refine TO.reenv (D := []) rfl ?_
              refine TO.move rfl rfl rfl rfl ?_
              refine TO.done ?_; exact X.obQ rfl ⟨rfl, rfl⟩ (Pick.refl _) rfl
            · rintro vs es Es Hx ⟨⟨h_5, e_5⟩, ⟨h_6, e_6⟩, -⟩
              refine TO.reenv (D := [(56, vs 5), (57, vs 6)]) rfl ?_; rw [h_5, h_6]
              refine TO.ixV hz57 hc55 hn54 g72 rfl rfl rfl rfl rfl TWLFlowAdds.l25 TWLFlowAdds.n2 ?_
              refine TO.done ?_; exact X.obQ rfl ⟨rfl, rfl⟩ (Pick.refl _) (by show [(56, vs 5), (57, vs 6)] = _; rw [h_5, h_6])
            · rintro vs es Es Hx ⟨⟨h_5, e_5⟩, ⟨h_6, e_6⟩, ⟨h_7, e_7⟩, -⟩
              refine TO.reenv (D := [(56, vs 5), (57, vs 6), (58, vs 7)]) rfl ?_; rw [h_5, h_6, h_7]
              refine TO.ldIV hz57 hc55 hn54 g72 rfl rfl rfl rfl TWLFlowAdds.s2 (List.Mem.tail _ (List.Mem.tail _ (List.Mem.tail _ (List.Mem.head _)))) ?_
              refine TO.done ?_; exact X.obQ rfl ⟨rfl, rfl⟩ (Pick.refl _) (by show [(56, vs 5), (57, vs 6), (58, vs 7)] = _; rw [h_5, h_6, h_7])
            · rintro vs es Es Hx ⟨⟨h_4, e_4⟩, ⟨h_8, e_8⟩, -⟩
              refine TO.reenv (D := [(55, vs 4), (59, vs 8)]) rfl ?_; rw [h_4, h_8]
              refine TO.addG g73 rfl rfl rfl rfl rfl ?_
              refine TO.done ?_; exact X.obQ rfl ⟨rfl, rfl⟩ (Pick.refl _) (by show [(55, vs 4), (59, vs 8)] = _; rw [h_4, h_8])
            · rintro vs es Es Hx ⟨⟨h_9, e_9⟩, -⟩
              refine TO.reenv (D := [(60, vs 9)]) rfl ?_; rw [h_9]
              refine TO.buildSliceS [.int .i64 0] [0] rfl rfl rfl rfl TWLFlowAdds.l25 TWLFlowAdds.n2 TWLFlowAdds.z2 rfl rfl (by simp only [setAll, setCells, Value.cells, List.toList_toArray, List.getD_cons_zero, List.getD_cons_succ, List.set_cons_zero, List.set_cons_succ]; rfl) (by kernel_rfl) ?_; intro b74
              refine TO.done ?_; exact X.obQ rfl ⟨b74, rfl, rfl⟩ (by repeat (first | exact Pick.refl _ | exact Pick.nil | apply Pick.none | refine Pick.cons (by repeat (first | exact Take.head _ _ | apply Take.tail)) ?_)) (by show [(60, vs 9)] = _; rw [h_9])
          · rintro vs es hb ⟨⟨h_0, e_0⟩, ⟨h_1, e_1⟩, ⟨h_2, e_2⟩, ⟨h_3, e_3⟩, ⟨h_4, e_4⟩, ⟨h_5, e_5⟩, ⟨h_6, e_6⟩, ⟨h_7, e_7⟩, ⟨h_8, e_8⟩, ⟨h_9, e_9⟩, ⟨b74, h_10, e_10⟩, -⟩ hHR
            obtain rfl : hb = [] := hHR
            refine TO.reenv (D := [(51, vs 0), (52, vs 1), (53, vs 2), (54, vs 3), (55, vs 4), (56, vs 5), (57, vs 6), (58, vs 7), (59, vs 8), (60, vs 9), (61, vs 10)]) rfl ?_
            refine TO.reheap (H := [(some b1, .cells #[.int .i64 r3.N, .int .i64 r3.S, .int .i64 r3.T, .slice (sb ob5) n6 c7] 24 (0, 0)), (ob5, .cells (arr arcC r3.Arcs j8).toArray 28 (0, 0)), (ob39, .cells (arr (intC .i64) r37 j42).toArray 2 (0, 0)), (ob50, .cells (arr (intC .i64) r48 j53).toArray 2 (0, 0)), (ob62, .cells (arr (intC .i64) both59 j63).toArray 2 (0, 0)), (some b74, .cells (arr (intC .i64) ([((r37.getD x69.toNat 0) + (r48.getD x69.toNat 0))]) ([])).toArray 2 (0, 0))]) (by show _ ++ (_ ++ (es 0 ++ (es 1 ++ (es 2 ++ (es 3 ++ (es 4 ++ (es 5 ++ (es 6 ++ (es 7 ++ (es 8 ++ (es 9 ++ (es 10 ++ ([]))))))))))))) = _; rw [e_0, e_1, e_2, e_3, e_4, e_5, e_6, e_7, e_8, e_9, e_10]; rfl) ?_
            rw [h_0, h_1, h_2, h_3, h_4, h_5, h_6, h_7, h_8, h_9, h_10]
            clear h_10 h_9 h_8 h_7 h_6 h_5 h_4 h_3 h_2 h_1 h_0 e_0 e_1 e_2 e_3 e_4 e_5 e_6 e_7 e_8 e_9 e_10
            refine TO.app (f := (intC .i64)) (s := 1) (xs := both59) (ob := ob62) (j := j63) (ys := [((r37.getD x69.toNat 0) + (r48.getD x69.toNat 0))]) (fun _ => rfl) (fun _ => rfl) TWLFlowAddsel25 g76 rfl rfl rfl rfl rfl (Take.tail (Take.tail (Take.tail (Take.tail (Take.head _ _))))) hn64 hc65 hj66 hz67 (fun wc hwc => (hwc.rs (f := (intC .i64)) (s := 1) (xs := [((r37.getD x69.toNat 0) + (r48.getD x69.toNat 0))]) (j := ([])) (fun _ => rfl) (List.Mem.tail _ (List.Mem.tail _ (List.Mem.tail _ (List.Mem.tail _ (List.Mem.tail _ (List.Mem.head _)))))) rfl (Nat.le_refl _) someZ)) ?_; intro ob77 c78 j79 hc80 hj81 hz82
            refine TO.assign rfl rfl rfl rfl ?_
            refine TO.done ?_
            refine X.block_normal ?_
            refine X.seq_normal ?_
            obtain ⟨g84, H⟩ := gd_some H
            refine T.regionL (ll := [0, 1]) rfl ?_
            refine TO.addG g84 rfl rfl rfl rfl rfl ?_
            refine TO.move rfl rfl rfl rfl ?_
            refine TO.done ?_
            have H := loop_next H C_3
            exact X.againE7 n_3 (both59 ++ ([((r37.getD x69.toNat 0) + (r48.getD x69.toNat 0))])) (n60 + 1) c78 ob77 j79 (x69 + 1) ⟨H, (lenApp hn64 rfl), hc80, hj81, hz82⟩ (Nat.lt_succ_self _) (AllF.cons rfl (AllF.cons rfl (AllF.cons rfl (AllF.cons rfl (AllF.cons rfl (AllF.cons rfl AllF.nil)))))) (Pick.cons (Take.tail (Take.head _ _)) (Pick.cons (Take.tail (Take.head _ _)) (Pick.cons (Take.tail (Take.head _ _)) (Pick.cons (Take.tail (Take.head _ _)) (Pick.cons (Take.head _ _) Pick.nil)))))
        ·
          refine T.condPF rfl g70 ?_
          refine T.exit ?_
          refine X.then_exit ?_
          have H := loop_exitE H C_3 ▸ K_3
          refine X.then_exit ?_
          refine X.block_here ?_
          exact X.metE5 both59 n60 c61 ob62 j63 ⟨H, hn64, hc65, hj66, hz67⟩ (AllF.cons rfl (AllF.cons rfl (AllF.cons rfl (AllF.cons rfl AllF.nil)))) (Pick.cons (Take.head _ _) (Pick.cons (Take.head _ _) (Pick.cons (Take.head _ _) (Pick.cons (Take.head _ _) (Pick.cons (Take.head _ _) Pick.nil)))))
      · rintro both85 n86 c87 ob88 j89 ⟨H, hn90, hc91, hj92, hz93⟩
        unfold m_acequialaw03_FlowAdds_j4 at H
        refine T.seq ?_
        obtain ⟨⟨r95, r96⟩, e97, H⟩ := bd_some H
        refine T.regionL (ll := [0, 1, 2, 3, 4, 5, 6, 7]) rfl ?_
        refine TO.loadA rfl rfl rfl rfl TWLFlowAdds.a24 (List.Mem.head _) rfl ?_
        refine TO.move rfl rfl rfl rfl ?_
        refine TO.callX TWLFlowAdds.c27 rfl rfl rfl rfl (fun wc hwc => w_flow_Excess (n0 := r3) (f1 := r37) wc (hwc.rs (f := arcC) (s := 3) (xs := r3.Arcs) (j := j8) (fun _ => rfl) (List.Mem.tail _ (List.Mem.head _)) hn9 hc10 hz12) (hwc.rs (f := (intC .i64)) (s := 1) (xs := r37) (j := j42) (fun _ => rfl) (List.Mem.tail _ (List.Mem.tail _ (List.Mem.head _))) hn43 hc44 hz46) e97) ?_
        rintro _ _ ⟨ob98, n99, c100, j101, rfl, rfl, hn102, hc103, hj104, hz105⟩
        refine TO.move rfl rfl rfl rfl ?_
        refine TO.extract rfl rfl rfl rfl rfl ?_
        refine TO.extract rfl rfl rfl rfl rfl ?_
        refine TO.assign rfl rfl rfl rfl ?_
        refine TO.assign rfl rfl rfl rfl ?_
        refine TO.done ?_
        refine X.seq_normal ?_
        refine T.seq ?_
        obtain ⟨⟨r107, r108⟩, e109, H⟩ := bd_some H
        refine T.regionL (ll := [0, 1, 2, 3, 4, 5, 6, 7]) rfl ?_
        refine TO.loadA rfl rfl rfl rfl TWLFlowAdds.a24 (List.Mem.tail _ (List.Mem.head _)) rfl ?_
        refine TO.move rfl rfl rfl rfl ?_
        refine TO.callX TWLFlowAdds.c27 rfl rfl rfl rfl (fun wc hwc => w_flow_Excess (n0 := r3) (f1 := r48) wc (hwc.rs (f := arcC) (s := 3) (xs := r3.Arcs) (j := j8) (fun _ => rfl) (List.Mem.tail _ (List.Mem.tail _ (List.Mem.head _))) hn9 hc10 hz12) (hwc.rs (f := (intC .i64)) (s := 1) (xs := r48) (j := j53) (fun _ => rfl) (List.Mem.tail _ (List.Mem.tail _ (List.Mem.tail _ (List.Mem.tail _ (List.Mem.head _))))) hn54 hc55 hz57) e109) ?_
        rintro _ _ ⟨ob110, n111, c112, j113, rfl, rfl, hn114, hc115, hj116, hz117⟩
        refine TO.move rfl rfl rfl rfl ?_
        refine TO.extract rfl rfl rfl rfl rfl ?_
        refine TO.extract rfl rfl rfl rfl rfl ?_
        refine TO.assign rfl rfl rfl rfl ?_
        refine TO.assign rfl rfl rfl rfl ?_
        refine TO.done ?_
        refine X.seq_normal ?_
        refine T.seq ?_
        obtain ⟨⟨r119, r120⟩, e121, H⟩ := bd_some H
        refine T.regionL (ll := [0, 1, 2, 3, 4, 5, 6, 7]) rfl ?_
        refine TO.loadA rfl rfl rfl rfl TWLFlowAdds.a24 (List.Mem.tail _ (List.Mem.tail _ (List.Mem.head _))) rfl ?_
        refine TO.move rfl rfl rfl rfl ?_
        refine TO.callX TWLFlowAdds.c27 rfl rfl rfl rfl (fun wc hwc => w_flow_Excess (n0 := r3) (f1 := both85) wc (hwc.rs (f := arcC) (s := 3) (xs := r3.Arcs) (j := j8) (fun _ => rfl) (List.Mem.tail _ (List.Mem.tail _ (List.Mem.tail _ (List.Mem.head _)))) hn9 hc10 hz12) (hwc.rs (f := (intC .i64)) (s := 1) (xs := both85) (j := j89) (fun _ => rfl) (List.Mem.tail _ (List.Mem.tail _ (List.Mem.tail _ (List.Mem.tail _ (List.Mem.tail _ (List.Mem.tail _ (List.Mem.head _))))))) hn90 hc91 hz93) e121) ?_
        rintro _ _ ⟨ob122, n123, c124, j125, rfl, rfl, hn126, hc127, hj128, hz129⟩
        refine TO.move rfl rfl rfl rfl ?_
        refine TO.extract rfl rfl rfl rfl rfl ?_
        refine TO.extract rfl rfl rfl rfl rfl ?_
        refine TO.assign rfl rfl rfl rfl ?_
        refine TO.assign rfl rfl rfl rfl ?_
        refine TO.done ?_
        refine X.seq_normal ?_
        refine T.seq ?_
        refine T.seq ?_
        rcases ite_some H with ⟨g131, H⟩ | ⟨g131, H⟩
        ·
          refine T.regionL (ll := [0, 1, 2, 3, 4, 5, 6, 7, 8, 9, 10, 11, 12, 13, 14, 15, 16, 17, 18, 19, 20, 21, 22, 23]) rfl ?_
          refine TO.move rfl rfl rfl rfl ?_
          refine TO.bin rfl rfl rfl rfl rfl rfl ?_
          refine TO.move rfl rfl rfl rfl ?_
          refine TO.decB (t := 84) (b' := true) rfl (decide_eq_true g131) ?_
          refine TO.shut rfl rfl rfl rfl ?_
          refine TO.shut rfl rfl rfl rfl ?_
          refine TO.pickT rfl rfl rfl rfl rfl ?_
          refine TO.move rfl rfl rfl rfl ?_
          refine TO.shut rfl rfl rfl rfl ?_
          refine TO.shut rfl rfl rfl rfl ?_
          refine TO.pickT rfl rfl rfl rfl rfl ?_
          refine TO.move rfl rfl rfl rfl ?_
          refine TO.shut rfl rfl rfl rfl ?_
          refine TO.shut rfl rfl rfl rfl ?_
          refine TO.shut rfl rfl rfl rfl ?_
          refine TO.shut rfl rfl rfl rfl ?_
          refine TO.shut rfl rfl rfl rfl ?_
          refine TO.pickT rfl rfl rfl rfl rfl ?_
          refine TO.move rfl rfl rfl rfl ?_
          refine TO.shut rfl rfl rfl rfl ?_
          refine TO.shut rfl rfl rfl rfl ?_
          refine TO.shut rfl rfl rfl rfl ?_
          refine TO.shut rfl rfl rfl rfl ?_
          refine TO.shut rfl rfl rfl rfl ?_
          refine TO.pickT rfl rfl rfl rfl rfl ?_
          refine TO.done ?_
          refine X.seq_normal ?_
          refine T.condT rfl rfl ?_
          refine T.seq ?_
          refine T.regionL (ll := [0]) rfl ?_
          refine TO.assign rfl rfl rfl rfl ?_
          refine TO.done ?_
          refine X.seq_normal ?_
          refine T.ret ?_
          refine X.then_ret ?_
          obtain rfl := ret1 H
          exact X.ret1 rfl rfl rfl rfl (Res.tmp rfl) Pick.nil ⟨rfl, rfl⟩
        ·
          rcases ite_some H with ⟨g132, H⟩ | ⟨g132, H⟩
          ·
            refine T.regionL (ll := [0, 1, 2, 3, 4, 5, 6, 7, 8, 9, 10, 11, 12, 13, 14, 15, 16, 17, 18, 19, 20, 21, 22, 23]) rfl ?_
            refine TO.move rfl rfl rfl rfl ?_
            refine TO.bin rfl rfl rfl rfl rfl rfl ?_
            refine TO.move rfl rfl rfl rfl ?_
            refine TO.decB (t := 84) (b' := false) rfl (decide_eq_false g131) ?_
            refine TO.move rfl rfl rfl rfl ?_
            refine TO.bin rfl rfl rfl rfl rfl rfl ?_
            refine TO.pickF rfl rfl rfl rfl rfl ?_
            refine TO.move rfl rfl rfl rfl ?_
            refine TO.decB (t := 88) (b' := true) rfl (decide_eq_true g132) ?_
            refine TO.shut rfl rfl rfl rfl ?_
            refine TO.shut rfl rfl rfl rfl ?_
            refine TO.pickT rfl rfl rfl rfl rfl ?_
            refine TO.move rfl rfl rfl rfl ?_
            refine TO.shut rfl rfl rfl rfl ?_
            refine TO.shut rfl rfl rfl rfl ?_
            refine TO.shut rfl rfl rfl rfl ?_
            refine TO.shut rfl rfl rfl rfl ?_
            refine TO.shut rfl rfl rfl rfl ?_
            refine TO.pickT rfl rfl rfl rfl rfl ?_
            refine TO.move rfl rfl rfl rfl ?_
            refine TO.shut rfl rfl rfl rfl ?_
            refine TO.shut rfl rfl rfl rfl ?_
            refine TO.shut rfl rfl rfl rfl ?_
            refine TO.shut rfl rfl rfl rfl ?_
            refine TO.shut rfl rfl rfl rfl ?_
            refine TO.pickT rfl rfl rfl rfl rfl ?_
            refine TO.done ?_
            refine X.seq_normal ?_
            refine T.condT rfl rfl ?_
            refine T.seq ?_
            refine T.regionL (ll := [0]) rfl ?_
            refine TO.assign rfl rfl rfl rfl ?_
            refine TO.done ?_
            refine X.seq_normal ?_
            refine T.ret ?_
            refine X.then_ret ?_
            obtain rfl := ret1 H
            exact X.ret1 rfl rfl rfl rfl (Res.tmp rfl) Pick.nil ⟨rfl, rfl⟩
          ·
            rcases ite_some H with ⟨g133, H⟩ | ⟨g133, H⟩
            ·
              refine T.regionL (ll := [0, 1, 2, 3, 4, 5, 6, 7, 8, 9, 10, 11, 12, 13, 14, 15, 16, 17, 18, 19, 20, 21, 22, 23]) rfl ?_
              refine TO.move rfl rfl rfl rfl ?_
              refine TO.bin rfl rfl rfl rfl rfl rfl ?_
              refine TO.move rfl rfl rfl rfl ?_
              refine TO.decB (t := 84) (b' := false) rfl (decide_eq_false g131) ?_
              refine TO.move rfl rfl rfl rfl ?_
              refine TO.bin rfl rfl rfl rfl rfl rfl ?_
              refine TO.pickF rfl rfl rfl rfl rfl ?_
              refine TO.move rfl rfl rfl rfl ?_
              refine TO.decB (t := 88) (b' := false) rfl (decide_eq_false g132) ?_
              refine TO.move rfl rfl rfl rfl ?_
              refine TO.bin rfl rfl rfl rfl rfl rfl ?_
              refine TO.pickF rfl rfl rfl rfl rfl ?_
              refine TO.move rfl rfl rfl rfl ?_
              refine TO.decB (t := 92) (b' := true) rfl (decide_eq_true g133) ?_
              refine TO.shut rfl rfl rfl rfl ?_
              refine TO.shut rfl rfl rfl rfl ?_
              refine TO.shut rfl rfl rfl rfl ?_
              refine TO.shut rfl rfl rfl rfl ?_
              refine TO.shut rfl rfl rfl rfl ?_
              refine TO.pickT rfl rfl rfl rfl rfl ?_
              refine TO.move rfl rfl rfl rfl ?_
              refine TO.shut rfl rfl rfl rfl ?_
              refine TO.shut rfl rfl rfl rfl ?_
              refine TO.shut rfl rfl rfl rfl ?_
              refine TO.shut rfl rfl rfl rfl ?_
              refine TO.shut rfl rfl rfl rfl ?_
              refine TO.pickT rfl rfl rfl rfl rfl ?_
              refine TO.done ?_
              refine X.seq_normal ?_
              refine T.condT rfl rfl ?_
              refine T.seq ?_
              refine T.regionL (ll := [0]) rfl ?_
              refine TO.assign rfl rfl rfl rfl ?_
              refine TO.done ?_
              refine X.seq_normal ?_
              refine T.ret ?_
              refine X.then_ret ?_
              obtain rfl := ret1 H
              exact X.ret1 rfl rfl rfl rfl (Res.tmp rfl) Pick.nil ⟨rfl, rfl⟩
            ·
              rcases ite_some H with ⟨g134, H⟩ | ⟨g134, H⟩
              ·
                refine T.regionL (ll := [0, 1, 2, 3, 4, 5, 6, 7, 8, 9, 10, 11, 12, 13, 14, 15, 16, 17, 18, 19, 20, 21, 22, 23]) rfl ?_
                refine TO.move rfl rfl rfl rfl ?_
                refine TO.bin rfl rfl rfl rfl rfl rfl ?_
                refine TO.move rfl rfl rfl rfl ?_
                refine TO.decB (t := 84) (b' := false) rfl (decide_eq_false g131) ?_
                refine TO.move rfl rfl rfl rfl ?_
                refine TO.bin rfl rfl rfl rfl rfl rfl ?_
                refine TO.pickF rfl rfl rfl rfl rfl ?_
                refine TO.move rfl rfl rfl rfl ?_
                refine TO.decB (t := 88) (b' := false) rfl (decide_eq_false g132) ?_
                refine TO.move rfl rfl rfl rfl ?_
                refine TO.bin rfl rfl rfl rfl rfl rfl ?_
                refine TO.pickF rfl rfl rfl rfl rfl ?_
                refine TO.move rfl rfl rfl rfl ?_
                refine TO.decB (t := 92) (b' := false) rfl (decide_eq_false g133) ?_
                refine TO.move rfl rfl rfl rfl ?_
                refine TO.lenX (xs := r95) hn102 rfl rfl rfl rfl rfl TWLFlowAdds.l25 ?_
                refine TO.move rfl rfl rfl rfl ?_
                refine TO.lenX (xs := r119) hn126 rfl rfl rfl rfl rfl TWLFlowAdds.l25 ?_
                refine TO.bin rfl rfl rfl rfl rfl rfl ?_
                refine TO.pickF rfl rfl rfl rfl rfl ?_
                refine TO.move rfl rfl rfl rfl ?_
                refine TO.decB (t := 99) (b' := true) rfl (decide_eq_true g134) ?_
                refine TO.shut rfl rfl rfl rfl ?_
                refine TO.shut rfl rfl rfl rfl ?_
                refine TO.shut rfl rfl rfl rfl ?_
                refine TO.shut rfl rfl rfl rfl ?_
                refine TO.shut rfl rfl rfl rfl ?_
                refine TO.pickT rfl rfl rfl rfl rfl ?_
                refine TO.done ?_
                refine X.seq_normal ?_
                refine T.condT rfl rfl ?_
                refine T.seq ?_
                refine T.regionL (ll := [0]) rfl ?_
                refine TO.assign rfl rfl rfl rfl ?_
                refine TO.done ?_
                refine X.seq_normal ?_
                refine T.ret ?_
                refine X.then_ret ?_
                obtain rfl := ret1 H
                exact X.ret1 rfl rfl rfl rfl (Res.tmp rfl) Pick.nil ⟨rfl, rfl⟩
              ·
                refine T.regionL (ll := [0, 1, 2, 3, 4, 5, 6, 7, 8, 9, 10, 11, 12, 13, 14, 15, 16, 17, 18, 19, 20, 21, 22, 23]) rfl ?_
                refine TO.move rfl rfl rfl rfl ?_
                refine TO.bin rfl rfl rfl rfl rfl rfl ?_
                refine TO.move rfl rfl rfl rfl ?_
                refine TO.decB (t := 84) (b' := false) rfl (decide_eq_false g131) ?_
                refine TO.move rfl rfl rfl rfl ?_
                refine TO.bin rfl rfl rfl rfl rfl rfl ?_
                refine TO.pickF rfl rfl rfl rfl rfl ?_
                refine TO.move rfl rfl rfl rfl ?_
                refine TO.decB (t := 88) (b' := false) rfl (decide_eq_false g132) ?_
                refine TO.move rfl rfl rfl rfl ?_
                refine TO.bin rfl rfl rfl rfl rfl rfl ?_
                refine TO.pickF rfl rfl rfl rfl rfl ?_
                refine TO.move rfl rfl rfl rfl ?_
                refine TO.decB (t := 92) (b' := false) rfl (decide_eq_false g133) ?_
                refine TO.move rfl rfl rfl rfl ?_
                refine TO.lenX (xs := r95) hn102 rfl rfl rfl rfl rfl TWLFlowAdds.l25 ?_
                refine TO.move rfl rfl rfl rfl ?_
                refine TO.lenX (xs := r119) hn126 rfl rfl rfl rfl rfl TWLFlowAdds.l25 ?_
                refine TO.bin rfl rfl rfl rfl rfl rfl ?_
                refine TO.pickF rfl rfl rfl rfl rfl ?_
                refine TO.move rfl rfl rfl rfl ?_
                refine TO.decB (t := 99) (b' := false) rfl (decide_eq_false g134) ?_
                refine TO.move rfl rfl rfl rfl ?_
                refine TO.lenX (xs := r107) hn114 rfl rfl rfl rfl rfl TWLFlowAdds.l25 ?_
                refine TO.move rfl rfl rfl rfl ?_
                refine TO.lenX (xs := r119) hn126 rfl rfl rfl rfl rfl TWLFlowAdds.l25 ?_
                refine TO.bin rfl rfl rfl rfl rfl rfl ?_
                refine TO.pickF rfl rfl rfl rfl rfl ?_
                refine TO.done ?_
                refine X.seq_normal ?_
                rcases ite_some H with ⟨g135, H⟩ | ⟨g135, H⟩
                ·
                  refine T.condPT rfl g135 ?_
                  refine T.seq ?_
                  refine T.regionL (ll := [0]) rfl ?_
                  refine TO.assign rfl rfl rfl rfl ?_
                  refine TO.done ?_
                  refine X.seq_normal ?_
                  refine T.ret ?_
                  refine X.then_ret ?_
                  obtain rfl := ret1 H
                  exact X.ret1 rfl rfl rfl rfl (Res.tmp rfl) Pick.nil ⟨rfl, rfl⟩
                ·
                  refine T.condPF rfl g135 ?_
                  refine T.skip ?_
                  refine X.seq_normal ?_
                  refine T.seq ?_
                  refine T.seq ?_
                  refine T.regionL (ll := [0, 1, 2]) rfl ?_
                  refine TO.move rfl rfl rfl rfl ?_
                  refine TO.lenX (xs := r119) hn126 rfl rfl rfl rfl rfl TWLFlowAdds.l25 ?_
                  refine TO.move rfl rfl rfl rfl ?_
                  refine TO.done ?_
                  refine X.seq_normal ?_
                  refine T.meetSE1 (fun (u144 : Unit) => m_acequialaw03_FlowAdds_j6 r3 r37 r48 both85 = some r0) (fun (u144 : Unit) => [(3, .pointer (some ⟨b1, 0, none⟩)), (9, .slice (sb ob39) n40 c41), (10, .slice (sb ob50) n51 c52), (11, .slice (sb ob88) n86 c87)]) (fun (u144 : Unit) => [(some b1, .cells #[.int .i64 r3.N, .int .i64 r3.S, .int .i64 r3.T, .slice (sb ob5) n6 c7] 24 (0, 0)), (ob5, .cells (arr arcC r3.Arcs j8).toArray 28 (0, 0)), (ob39, .cells (arr (intC .i64) r37 j42).toArray 2 (0, 0)), (ob50, .cells (arr (intC .i64) r48 j53).toArray 2 (0, 0)), (ob88, .cells (arr (intC .i64) both85 j89).toArray 2 (0, 0))]) ?_ ?_
                  ·
                    refine T.block ?_
                    obtain ⟨o_5, e_5, K_5⟩ := bd_some H
                    refine T.loopE2 (fun (m_5 : Nat) (x136 : Int) => loopM (fun s => m_acequialaw03_FlowAdds_s5 r95 r107 r119 s) m_5 x136 = some o_5) (fun (m_5 : Nat) (x136 : Int) => [(3, .pointer (some ⟨b1, 0, none⟩)), (9, .slice (sb ob39) n40 c41), (10, .slice (sb ob50) n51 c52), (11, .slice (sb ob88) n86 c87), (13, .slice (sb ob98) n99 c100), (15, .slice (sb ob110) n111 c112), (17, .slice (sb ob122) n123 c124), (107, .int .i64 (r119.length : Int)), (108, .int .i64 x136)]) (fun (m_5 : Nat) (x136 : Int) => [(some b1, .cells #[.int .i64 r3.N, .int .i64 r3.S, .int .i64 r3.T, .slice (sb ob5) n6 c7] 24 (0, 0)), (ob5, .cells (arr arcC r3.Arcs j8).toArray 28 (0, 0)), (ob39, .cells (arr (intC .i64) r37 j42).toArray 2 (0, 0)), (ob50, .cells (arr (intC .i64) r48 j53).toArray 2 (0, 0)), (ob88, .cells (arr (intC .i64) both85 j89).toArray 2 (0, 0)), (ob98, .cells (arr (intC .i64) r95 j101).toArray 2 (0, 0)), (ob110, .cells (arr (intC .i64) r107 j113).toArray 2 (0, 0)), (ob122, .cells (arr (intC .i64) r119 j125).toArray 2 (0, 0))]) (fun (m_5 : Nat) (x136 : Int) => m_5) FUEL 0 e_5 (AllF.cons rfl (AllF.cons rfl (AllF.cons rfl (AllF.cons rfl (AllF.cons rfl (AllF.cons rfl (AllF.cons rfl (AllF.cons rfl (AllF.cons rfl AllF.nil))))))))) (Pick.cons (Take.tail (Take.tail (Take.tail (Take.head _ _)))) (Pick.cons (Take.tail (Take.tail (Take.tail (Take.head _ _)))) (Pick.cons (Take.tail (Take.tail (Take.tail (Take.head _ _)))) (Pick.cons (Take.tail (Take.tail (Take.tail (Take.head _ _)))) (Pick.cons (Take.tail (Take.tail (Take.tail (Take.head _ _)))) (Pick.cons (Take.tail (Take.tail (Take.head _ _))) (Pick.cons (Take.tail (Take.head _ _)) (Pick.cons (Take.head _ _) Pick.nil)))))))) ?_
                    rintro m_5 x136 H
                    obtain ⟨n_5, r_5, rfl, H, C_5⟩ := loopM_some H
                    have H : m_acequialaw03_FlowAdds_s5 r95 r107 r119 x136 = some r_5 := H
                    unfold m_acequialaw03_FlowAdds_s5 at H
                    refine T.seq ?_
                    refine T.regionL (ll := [0]) rfl ?_
                    refine TO.bin rfl rfl rfl rfl rfl rfl ?_
                    refine TO.done ?_
                    refine X.seq_normal ?_
                    refine T.seq ?_
                    rcases ite_some H with ⟨g137, H⟩ | ⟨g137, H⟩
                    ·
                      refine T.condPT rfl g137 ?_
                      refine T.skip ?_
                      refine X.seq_normal ?_
                      refine T.seq ?_
                      refine T.block ?_
                      refine T.seq ?_
                      refine T.regionL (ll := [0, 1]) rfl ?_
                      refine TO.move rfl rfl rfl rfl ?_
                      refine TO.assign rfl rfl rfl rfl ?_
                      refine TO.done ?_
                      refine X.seq_normal ?_
                      refine T.seq ?_
                      obtain ⟨g138, H⟩ := gd_some H
                      obtain ⟨g139, H⟩ := gd_some H
                      obtain ⟨g140, H⟩ := gd_some H
                      obtain ⟨g141, H⟩ := gd_some H
                      apply T.drawQT [(111, _), (112, _), (113, _), (114, _), (115, _), (116, _), (117, _), (118, _), (119, _), (120, _), (121, _), (122, _), (123, _)]
                      · exact mixed
                      · kernel_rfl
                      · kernel_rfl
                      · exact rfl
                      · exact rfl
                      · refine ⟨?_, ?_, ?_, ?_, ?_, ?_, ?_, ?_, ?_, ?_, ?_, ?_, ?_, trivial⟩
                        · intro Es
                          refine TO.move rfl rfl rfl rfl ?_
                          exact TO.done (X.ob rfl (Pick.refl _))
                        · intro Es
                          refine TO.move rfl rfl rfl rfl ?_
                          exact TO.done (X.ob rfl (Pick.refl _))
                        · intro Es
                          refine TO.ixV hz129 hc127 hn126 g138 rfl rfl rfl rfl rfl TWLFlowAdds.l25 TWLFlowAdds.n2 ?_
                          exact TO.done (X.ob rfl (Pick.refl _))
                        · intro Es
                          refine TO.ldIV hz129 hc127 hn126 g138 rfl rfl rfl rfl TWLFlowAdds.s2 (List.Mem.tail _ (List.Mem.tail _ (List.Mem.tail _ (List.Mem.tail _ (List.Mem.tail _ (List.Mem.tail _ (List.Mem.tail _ (List.Mem.head _)))))))) ?_
                          exact TO.done (X.ob rfl (Pick.refl _))
                        · intro Es
                          refine TO.move rfl rfl rfl rfl ?_
                          exact TO.done (X.ob rfl (Pick.refl _))
                        · intro Es
                          refine TO.move rfl rfl rfl rfl ?_
                          exact TO.done (X.ob rfl (Pick.refl _))
                        · intro Es
                          refine TO.ixV hz105 hc103 hn102 g139 rfl rfl rfl rfl rfl TWLFlowAdds.l25 TWLFlowAdds.n2 ?_
                          exact TO.done (X.ob rfl (Pick.refl _))
                        · intro Es
                          refine TO.ldIV hz105 hc103 hn102 g139 rfl rfl rfl rfl TWLFlowAdds.s2 (List.Mem.tail _ (List.Mem.tail _ (List.Mem.tail _ (List.Mem.tail _ (List.Mem.tail _ (List.Mem.head _)))))) ?_
                          exact TO.done (X.ob rfl (Pick.refl _))
                        · intro Es
                          refine TO.move rfl rfl rfl rfl ?_
                          exact TO.done (X.ob rfl (Pick.refl _))
                        · intro Es
                          refine TO.move rfl rfl rfl rfl ?_
                          exact TO.done (X.ob rfl (Pick.refl _))
                        · intro Es
                          refine TO.ixV hz117 hc115 hn114 g140 rfl rfl rfl rfl rfl TWLFlowAdds.l25 TWLFlowAdds.n2 ?_
                          exact TO.done (X.ob rfl (Pick.refl _))
                        · intro Es
                          refine TO.ldIV hz117 hc115 hn114 g140 rfl rfl rfl rfl TWLFlowAdds.s2 (List.Mem.tail _ (List.Mem.tail _ (List.Mem.tail _ (List.Mem.tail _ (List.Mem.tail _ (List.Mem.tail _ (List.Mem.head _))))))) ?_
                          exact TO.done (X.ob rfl (Pick.refl _))
                        · intro Es
                          refine TO.addG g141 rfl rfl rfl rfl rfl ?_
                          exact TO.done (X.ob rfl (Pick.refl _))
                      refine TO.bin rfl rfl rfl rfl rfl rfl ?_
                      refine TO.done ?_
                      refine X.seq_normal ?_
                      rcases ite_some H with ⟨g142, H⟩ | ⟨g142, H⟩
                      ·
                        refine T.condPT rfl g142 ?_
                        refine T.seq ?_
                        refine T.regionL (ll := [0]) rfl ?_
                        refine TO.assign rfl rfl rfl rfl ?_
                        refine TO.done ?_
                        refine X.seq_normal ?_
                        refine T.ret ?_
                        refine X.block_ret ?_
                        refine X.then_ret ?_
                        have H := loop_exitE H C_5 ▸ K_5
                        refine X.then_ret ?_
                        refine X.block_ret ?_
                        refine X.then_ret ?_
                        obtain rfl := ret1 H
                        exact X.ret1 rfl rfl rfl rfl (Res.tmp rfl) Pick.nil ⟨rfl, rfl⟩
                      ·
                        refine T.condPF rfl g142 ?_
                        refine T.skip ?_
                        refine X.block_normal ?_
                        refine X.seq_normal ?_
                        obtain ⟨g143, H⟩ := gd_some H
                        refine T.regionL (ll := [0, 1]) rfl ?_
                        refine TO.addG g143 rfl rfl rfl rfl rfl ?_
                        refine TO.move rfl rfl rfl rfl ?_
                        refine TO.done ?_
                        have H := loop_next H C_5
                        exact X.againE2 n_5 (x136 + 1) H (Nat.lt_succ_self _) (AllF.cons rfl (AllF.cons rfl (AllF.cons rfl (AllF.cons rfl (AllF.cons rfl (AllF.cons rfl (AllF.cons rfl (AllF.cons rfl (AllF.cons rfl AllF.nil))))))))) (Pick.cons (Take.head _ _) (Pick.cons (Take.head _ _) (Pick.cons (Take.head _ _) (Pick.cons (Take.head _ _) (Pick.cons (Take.head _ _) (Pick.cons (Take.head _ _) (Pick.cons (Take.head _ _) (Pick.cons (Take.head _ _) Pick.nil))))))))
                    ·
                      refine T.condPF rfl g137 ?_
                      refine T.exit ?_
                      refine X.then_exit ?_
                      have H := loop_exitE H C_5 ▸ K_5
                      refine X.then_exit ?_
                      refine X.block_here ?_
                      exact X.metE1 () H (AllF.cons rfl (AllF.cons rfl (AllF.cons rfl (AllF.cons rfl AllF.nil)))) (Pick.cons (Take.head _ _) (Pick.cons (Take.head _ _) (Pick.cons (Take.head _ _) (Pick.cons (Take.head _ _) (Pick.cons (Take.head _ _) Pick.nil)))))
                  · rintro u144 H
                    unfold m_acequialaw03_FlowAdds_j6 at H
                    refine T.seq ?_
                    obtain ⟨r145, e146, H⟩ := bd_some H
                    rcases ite_some H with ⟨g147, H⟩ | ⟨g147, H⟩
                    ·
                      obtain ⟨r148, e149, H⟩ := bd_some H
                      rcases ite_some H with ⟨g150, H⟩ | ⟨g150, H⟩
                      ·
                        obtain ⟨r151, e152, H⟩ := bd_some H
                        apply T.drawQT [(126, _), (127, _), (128, _), (129, _), (130, _), (131, _), (132, _), (133, _), (134, _), (135, _), (136, _), (137, _), (138, _), (139, _), (140, _), (141, _), (142, _), (143, _), (144, _), (145, _), (146, _), (147, _), (148, _), (149, _), (150, _), (151, _), (152, _)]
                        · exact mixed
                        · kernel_rfl
                        · kernel_rfl
                        · exact rfl
                        · exact rfl
                        · refine ⟨?_, ?_, ?_, ?_, ?_, ?_, ?_, ?_, ?_, ?_, ?_, ?_, ?_, ?_, ?_, ?_, ?_, ?_, ?_, ?_, ?_, ?_, ?_, ?_, ?_, ?_, ?_, trivial⟩
                          · intro Es
                            refine TO.loadA rfl rfl rfl rfl TWLFlowAdds.a24 (List.Mem.head _) rfl ?_
                            exact TO.done (X.ob rfl (Pick.refl _))
                          · intro Es
                            refine TO.move rfl rfl rfl rfl ?_
                            exact TO.done (X.ob rfl (Pick.refl _))
                          · intro Es
                            refine TO.callX TWLFlowAdds.c31 rfl rfl rfl rfl (fun wc hwc => w_flow_Right (n0 := r3) (f1 := r37) wc (hwc.rs (f := arcC) (s := 3) (xs := r3.Arcs) (j := j8) (fun _ => rfl) (List.Mem.tail _ (List.Mem.head _)) hn9 hc10 hz12) (hwc.rs (f := (intC .i64)) (s := 1) (xs := r37) (j := j42) (fun _ => rfl) (List.Mem.tail _ (List.Mem.tail _ (List.Mem.head _))) hn43 hc44 hz46) e146) ?_
                            rintro _ _ ⟨rfl, rfl⟩
                            exact TO.done (X.ob rfl (Pick.refl _))
                          · intro Es
                            refine TO.not rfl rfl rfl rfl ?_
                            exact TO.done (X.ob rfl (Pick.refl _))
                          · intro Es
                            refine TO.move rfl rfl rfl rfl ?_
                            refine TO.decB (t := 130) (b' := true) rfl g147 ?_
                            exact TO.done (X.ob2 rfl (Pick.refl _))
                          · intro Es
                            refine TO.shut rfl rfl rfl rfl ?_
                            exact TO.done (X.ob rfl (Pick.refl _))
                          · intro Es
                            refine TO.shut rfl rfl rfl rfl ?_
                            exact TO.done (X.ob rfl (Pick.refl _))
                          · intro Es
                            refine TO.shut rfl rfl rfl rfl ?_
                            exact TO.done (X.ob rfl (Pick.refl _))
                          · intro Es
                            refine TO.shut rfl rfl rfl rfl ?_
                            exact TO.done (X.ob rfl (Pick.refl _))
                          · intro Es
                            refine TO.shut rfl rfl rfl rfl ?_
                            exact TO.done (X.ob rfl (Pick.refl _))
                          · intro Es
                            refine TO.shut rfl rfl rfl rfl ?_
                            exact TO.done (X.ob rfl (Pick.refl _))
                          · intro Es
                            refine TO.shut rfl rfl rfl rfl ?_
                            exact TO.done (X.ob rfl (Pick.refl _))
                          · intro Es
                            refine TO.pickT rfl rfl rfl rfl rfl ?_
                            exact TO.done (X.ob rfl (Pick.refl _))
                          · intro Es
                            refine TO.move rfl rfl rfl rfl ?_
                            exact TO.done (X.ob rfl (Pick.refl _))
                          · intro Es
                            refine TO.loadA rfl rfl rfl rfl TWLFlowAdds.a24 (List.Mem.head _) rfl ?_
                            exact TO.done (X.ob rfl (Pick.refl _))
                          · intro Es
                            refine TO.move rfl rfl rfl rfl ?_
                            exact TO.done (X.ob rfl (Pick.refl _))
                          · intro Es
                            refine TO.callX TWLFlowAdds.c30 rfl rfl rfl rfl (fun wc hwc => w_flow_Pre (n0 := r3) (f1 := r37) wc (hwc.rs (f := arcC) (s := 3) (xs := r3.Arcs) (j := j8) (fun _ => rfl) (List.Mem.tail _ (List.Mem.head _)) hn9 hc10 hz12) (hwc.rs (f := (intC .i64)) (s := 1) (xs := r37) (j := j42) (fun _ => rfl) (List.Mem.tail _ (List.Mem.tail _ (List.Mem.head _))) hn43 hc44 hz46) e149) ?_
                            rintro _ _ ⟨rfl, rfl⟩
                            exact TO.done (X.ob rfl (Pick.refl _))
                          · intro Es
                            refine TO.not rfl rfl rfl rfl ?_
                            exact TO.done (X.ob rfl (Pick.refl _))
                          · intro Es
                            refine TO.move rfl rfl rfl rfl ?_
                            refine TO.decB (t := 144) (b' := true) rfl g150 ?_
                            exact TO.done (X.ob2 rfl (Pick.refl _))
                          · intro Es
                            refine TO.shut rfl rfl rfl rfl ?_
                            exact TO.done (X.ob rfl (Pick.refl _))
                          · intro Es
                            refine TO.shut rfl rfl rfl rfl ?_
                            exact TO.done (X.ob rfl (Pick.refl _))
                          · intro Es
                            refine TO.shut rfl rfl rfl rfl ?_
                            exact TO.done (X.ob rfl (Pick.refl _))
                          · intro Es
                            refine TO.shut rfl rfl rfl rfl ?_
                            exact TO.done (X.ob rfl (Pick.refl _))
                          · intro Es
                            refine TO.pickT rfl rfl rfl rfl rfl ?_
                            exact TO.done (X.ob rfl (Pick.refl _))
                          · intro Es
                            refine TO.move rfl rfl rfl rfl ?_
                            exact TO.done (X.ob rfl (Pick.refl _))
                          · intro Es
                            refine TO.shut rfl rfl rfl rfl ?_
                            exact TO.done (X.ob rfl (Pick.refl _))
                          · intro Es
                            refine TO.shut rfl rfl rfl rfl ?_
                            exact TO.done (X.ob rfl (Pick.refl _))
                        refine TO.shut rfl rfl rfl rfl ?_
                        refine TO.pickT rfl rfl rfl rfl rfl ?_
                        refine TO.pickT rfl rfl rfl rfl rfl ?_
                        refine TO.move rfl rfl rfl rfl ?_
                        refine TO.callX TWLFlowAdds.c32 rfl rfl rfl rfl (fun wc hwc => w_acequialaw03_awake  wc  e152) ?_
                        rintro _ _ ⟨rfl, rfl⟩
                        refine TO.pickT rfl rfl rfl rfl rfl ?_
                        refine TO.assign rfl rfl rfl rfl ?_
                        refine TO.done ?_
                        refine X.seq_normal ?_
                        refine T.ret ?_
                        obtain rfl := ret1 H
                        exact X.ret1 rfl rfl rfl rfl (Res.tmp rfl) Pick.nil ⟨rfl, rfl⟩
                      ·
                        obtain ⟨r153, e154, H⟩ := bd_some H
                        rcases ite_some H with ⟨g155, H⟩ | ⟨g155, H⟩
                        ·
                          obtain ⟨r156, e157, H⟩ := bd_some H
                          apply T.drawQT [(126, _), (127, _), (128, _), (129, _), (130, _), (131, _), (132, _), (133, _), (134, _), (135, _), (136, _), (137, _), (138, _), (139, _), (140, _), (141, _), (142, _), (143, _), (144, _), (145, _), (146, _), (147, _), (148, _), (149, _), (150, _), (151, _), (152, _)]
                          · exact mixed
                          · kernel_rfl
                          · kernel_rfl
                          · exact rfl
                          · exact rfl
                          · refine ⟨?_, ?_, ?_, ?_, ?_, ?_, ?_, ?_, ?_, ?_, ?_, ?_, ?_, ?_, ?_, ?_, ?_, ?_, ?_, ?_, ?_, ?_, ?_, ?_, ?_, ?_, ?_, trivial⟩
                            · intro Es
                              refine TO.loadA rfl rfl rfl rfl TWLFlowAdds.a24 (List.Mem.head _) rfl ?_
                              exact TO.done (X.ob rfl (Pick.refl _))
                            · intro Es
                              refine TO.move rfl rfl rfl rfl ?_
                              exact TO.done (X.ob rfl (Pick.refl _))
                            · intro Es
                              refine TO.callX TWLFlowAdds.c31 rfl rfl rfl rfl (fun wc hwc => w_flow_Right (n0 := r3) (f1 := r37) wc (hwc.rs (f := arcC) (s := 3) (xs := r3.Arcs) (j := j8) (fun _ => rfl) (List.Mem.tail _ (List.Mem.head _)) hn9 hc10 hz12) (hwc.rs (f := (intC .i64)) (s := 1) (xs := r37) (j := j42) (fun _ => rfl) (List.Mem.tail _ (List.Mem.tail _ (List.Mem.head _))) hn43 hc44 hz46) e146) ?_
                              rintro _ _ ⟨rfl, rfl⟩
                              exact TO.done (X.ob rfl (Pick.refl _))
                            · intro Es
                              refine TO.not rfl rfl rfl rfl ?_
                              exact TO.done (X.ob rfl (Pick.refl _))
                            · intro Es
                              refine TO.move rfl rfl rfl rfl ?_
                              refine TO.decB (t := 130) (b' := true) rfl g147 ?_
                              exact TO.done (X.ob2 rfl (Pick.refl _))
                            · intro Es
                              refine TO.shut rfl rfl rfl rfl ?_
                              exact TO.done (X.ob rfl (Pick.refl _))
                            · intro Es
                              refine TO.shut rfl rfl rfl rfl ?_
                              exact TO.done (X.ob rfl (Pick.refl _))
                            · intro Es
                              refine TO.shut rfl rfl rfl rfl ?_
                              exact TO.done (X.ob rfl (Pick.refl _))
                            · intro Es
                              refine TO.shut rfl rfl rfl rfl ?_
                              exact TO.done (X.ob rfl (Pick.refl _))
                            · intro Es
                              refine TO.shut rfl rfl rfl rfl ?_
                              exact TO.done (X.ob rfl (Pick.refl _))
                            · intro Es
                              refine TO.shut rfl rfl rfl rfl ?_
                              exact TO.done (X.ob rfl (Pick.refl _))
                            · intro Es
                              refine TO.shut rfl rfl rfl rfl ?_
                              exact TO.done (X.ob rfl (Pick.refl _))
                            · intro Es
                              refine TO.pickT rfl rfl rfl rfl rfl ?_
                              exact TO.done (X.ob rfl (Pick.refl _))
                            · intro Es
                              refine TO.move rfl rfl rfl rfl ?_
                              exact TO.done (X.ob rfl (Pick.refl _))
                            · intro Es
                              refine TO.loadA rfl rfl rfl rfl TWLFlowAdds.a24 (List.Mem.head _) rfl ?_
                              exact TO.done (X.ob rfl (Pick.refl _))
                            · intro Es
                              refine TO.move rfl rfl rfl rfl ?_
                              exact TO.done (X.ob rfl (Pick.refl _))
                            · intro Es
                              refine TO.callX TWLFlowAdds.c30 rfl rfl rfl rfl (fun wc hwc => w_flow_Pre (n0 := r3) (f1 := r37) wc (hwc.rs (f := arcC) (s := 3) (xs := r3.Arcs) (j := j8) (fun _ => rfl) (List.Mem.tail _ (List.Mem.head _)) hn9 hc10 hz12) (hwc.rs (f := (intC .i64)) (s := 1) (xs := r37) (j := j42) (fun _ => rfl) (List.Mem.tail _ (List.Mem.tail _ (List.Mem.head _))) hn43 hc44 hz46) e149) ?_
                              rintro _ _ ⟨rfl, rfl⟩
                              exact TO.done (X.ob rfl (Pick.refl _))
                            · intro Es
                              refine TO.not rfl rfl rfl rfl ?_
                              exact TO.done (X.ob rfl (Pick.refl _))
                            · intro Es
                              refine TO.move rfl rfl rfl rfl ?_
                              refine TO.decB (t := 144) (b' := false) rfl (Bool.eq_false_iff.2 g150) ?_
                              exact TO.done (X.ob2 rfl (Pick.refl _))
                            · intro Es
                              refine TO.loadA rfl rfl rfl rfl TWLFlowAdds.a24 (List.Mem.head _) rfl ?_
                              exact TO.done (X.ob rfl (Pick.refl _))
                            · intro Es
                              refine TO.move rfl rfl rfl rfl ?_
                              exact TO.done (X.ob rfl (Pick.refl _))
                            · intro Es
                              refine TO.callX TWLFlowAdds.c30 rfl rfl rfl rfl (fun wc hwc => w_flow_Pre (n0 := r3) (f1 := r48) wc (hwc.rs (f := arcC) (s := 3) (xs := r3.Arcs) (j := j8) (fun _ => rfl) (List.Mem.tail _ (List.Mem.head _)) hn9 hc10 hz12) (hwc.rs (f := (intC .i64)) (s := 1) (xs := r48) (j := j53) (fun _ => rfl) (List.Mem.tail _ (List.Mem.tail _ (List.Mem.tail _ (List.Mem.head _)))) hn54 hc55 hz57) e154) ?_
                              rintro _ _ ⟨rfl, rfl⟩
                              exact TO.done (X.ob rfl (Pick.refl _))
                            · intro Es
                              refine TO.not rfl rfl rfl rfl ?_
                              exact TO.done (X.ob rfl (Pick.refl _))
                            · intro Es
                              refine TO.pickF rfl rfl rfl rfl rfl ?_
                              exact TO.done (X.ob rfl (Pick.refl _))
                            · intro Es
                              refine TO.move rfl rfl rfl rfl ?_
                              refine TO.decB (t := 150) (b' := true) rfl g155 ?_
                              exact TO.done (X.ob2 rfl (Pick.refl _))
                            · intro Es
                              refine TO.shut rfl rfl rfl rfl ?_
                              exact TO.done (X.ob rfl (Pick.refl _))
                            · intro Es
                              refine TO.shut rfl rfl rfl rfl ?_
                              exact TO.done (X.ob rfl (Pick.refl _))
                          refine TO.shut rfl rfl rfl rfl ?_
                          refine TO.pickT rfl rfl rfl rfl rfl ?_
                          refine TO.pickT rfl rfl rfl rfl rfl ?_
                          refine TO.move rfl rfl rfl rfl ?_
                          refine TO.callX TWLFlowAdds.c32 rfl rfl rfl rfl (fun wc hwc => w_acequialaw03_awake  wc  e157) ?_
                          rintro _ _ ⟨rfl, rfl⟩
                          refine TO.pickT rfl rfl rfl rfl rfl ?_
                          refine TO.assign rfl rfl rfl rfl ?_
                          refine TO.done ?_
                          refine X.seq_normal ?_
                          refine T.ret ?_
                          obtain rfl := ret1 H
                          exact X.ret1 rfl rfl rfl rfl (Res.tmp rfl) Pick.nil ⟨rfl, rfl⟩
                        ·
                          obtain ⟨r158, e159, H⟩ := bd_some H
                          rcases ite_some H with ⟨g160, H⟩ | ⟨g160, H⟩
                          ·
                            obtain ⟨r161, e162, H⟩ := bd_some H
                            apply T.drawQT [(126, _), (127, _), (128, _), (129, _), (130, _), (131, _), (132, _), (133, _), (134, _), (135, _), (136, _), (137, _), (138, _), (139, _), (140, _), (141, _), (142, _), (143, _), (144, _), (145, _), (146, _), (147, _), (148, _), (149, _), (150, _), (151, _), (152, _)]
                            · exact mixed
                            · kernel_rfl
                            · kernel_rfl
                            · exact rfl
                            · exact rfl
                            · refine ⟨?_, ?_, ?_, ?_, ?_, ?_, ?_, ?_, ?_, ?_, ?_, ?_, ?_, ?_, ?_, ?_, ?_, ?_, ?_, ?_, ?_, ?_, ?_, ?_, ?_, ?_, ?_, trivial⟩
                              · intro Es
                                refine TO.loadA rfl rfl rfl rfl TWLFlowAdds.a24 (List.Mem.head _) rfl ?_
                                exact TO.done (X.ob rfl (Pick.refl _))
                              · intro Es
                                refine TO.move rfl rfl rfl rfl ?_
                                exact TO.done (X.ob rfl (Pick.refl _))
                              · intro Es
                                refine TO.callX TWLFlowAdds.c31 rfl rfl rfl rfl (fun wc hwc => w_flow_Right (n0 := r3) (f1 := r37) wc (hwc.rs (f := arcC) (s := 3) (xs := r3.Arcs) (j := j8) (fun _ => rfl) (List.Mem.tail _ (List.Mem.head _)) hn9 hc10 hz12) (hwc.rs (f := (intC .i64)) (s := 1) (xs := r37) (j := j42) (fun _ => rfl) (List.Mem.tail _ (List.Mem.tail _ (List.Mem.head _))) hn43 hc44 hz46) e146) ?_
                                rintro _ _ ⟨rfl, rfl⟩
                                exact TO.done (X.ob rfl (Pick.refl _))
                              · intro Es
                                refine TO.not rfl rfl rfl rfl ?_
                                exact TO.done (X.ob rfl (Pick.refl _))
                              · intro Es
                                refine TO.move rfl rfl rfl rfl ?_
                                refine TO.decB (t := 130) (b' := true) rfl g147 ?_
                                exact TO.done (X.ob2 rfl (Pick.refl _))
                              · intro Es
                                refine TO.shut rfl rfl rfl rfl ?_
                                exact TO.done (X.ob rfl (Pick.refl _))
                              · intro Es
                                refine TO.shut rfl rfl rfl rfl ?_
                                exact TO.done (X.ob rfl (Pick.refl _))
                              · intro Es
                                refine TO.shut rfl rfl rfl rfl ?_
                                exact TO.done (X.ob rfl (Pick.refl _))
                              · intro Es
                                refine TO.shut rfl rfl rfl rfl ?_
                                exact TO.done (X.ob rfl (Pick.refl _))
                              · intro Es
                                refine TO.shut rfl rfl rfl rfl ?_
                                exact TO.done (X.ob rfl (Pick.refl _))
                              · intro Es
                                refine TO.shut rfl rfl rfl rfl ?_
                                exact TO.done (X.ob rfl (Pick.refl _))
                              · intro Es
                                refine TO.shut rfl rfl rfl rfl ?_
                                exact TO.done (X.ob rfl (Pick.refl _))
                              · intro Es
                                refine TO.pickT rfl rfl rfl rfl rfl ?_
                                exact TO.done (X.ob rfl (Pick.refl _))
                              · intro Es
                                refine TO.move rfl rfl rfl rfl ?_
                                exact TO.done (X.ob rfl (Pick.refl _))
                              · intro Es
                                refine TO.loadA rfl rfl rfl rfl TWLFlowAdds.a24 (List.Mem.head _) rfl ?_
                                exact TO.done (X.ob rfl (Pick.refl _))
                              · intro Es
                                refine TO.move rfl rfl rfl rfl ?_
                                exact TO.done (X.ob rfl (Pick.refl _))
                              · intro Es
                                refine TO.callX TWLFlowAdds.c30 rfl rfl rfl rfl (fun wc hwc => w_flow_Pre (n0 := r3) (f1 := r37) wc (hwc.rs (f := arcC) (s := 3) (xs := r3.Arcs) (j := j8) (fun _ => rfl) (List.Mem.tail _ (List.Mem.head _)) hn9 hc10 hz12) (hwc.rs (f := (intC .i64)) (s := 1) (xs := r37) (j := j42) (fun _ => rfl) (List.Mem.tail _ (List.Mem.tail _ (List.Mem.head _))) hn43 hc44 hz46) e149) ?_
                                rintro _ _ ⟨rfl, rfl⟩
                                exact TO.done (X.ob rfl (Pick.refl _))
                              · intro Es
                                refine TO.not rfl rfl rfl rfl ?_
                                exact TO.done (X.ob rfl (Pick.refl _))
                              · intro Es
                                refine TO.move rfl rfl rfl rfl ?_
                                refine TO.decB (t := 144) (b' := false) rfl (Bool.eq_false_iff.2 g150) ?_
                                exact TO.done (X.ob2 rfl (Pick.refl _))
                              · intro Es
                                refine TO.loadA rfl rfl rfl rfl TWLFlowAdds.a24 (List.Mem.head _) rfl ?_
                                exact TO.done (X.ob rfl (Pick.refl _))
                              · intro Es
                                refine TO.move rfl rfl rfl rfl ?_
                                exact TO.done (X.ob rfl (Pick.refl _))
                              · intro Es
                                refine TO.callX TWLFlowAdds.c30 rfl rfl rfl rfl (fun wc hwc => w_flow_Pre (n0 := r3) (f1 := r48) wc (hwc.rs (f := arcC) (s := 3) (xs := r3.Arcs) (j := j8) (fun _ => rfl) (List.Mem.tail _ (List.Mem.head _)) hn9 hc10 hz12) (hwc.rs (f := (intC .i64)) (s := 1) (xs := r48) (j := j53) (fun _ => rfl) (List.Mem.tail _ (List.Mem.tail _ (List.Mem.tail _ (List.Mem.head _)))) hn54 hc55 hz57) e154) ?_
                                rintro _ _ ⟨rfl, rfl⟩
                                exact TO.done (X.ob rfl (Pick.refl _))
                              · intro Es
                                refine TO.not rfl rfl rfl rfl ?_
                                exact TO.done (X.ob rfl (Pick.refl _))
                              · intro Es
                                refine TO.pickF rfl rfl rfl rfl rfl ?_
                                exact TO.done (X.ob rfl (Pick.refl _))
                              · intro Es
                                refine TO.move rfl rfl rfl rfl ?_
                                refine TO.decB (t := 150) (b' := false) rfl (Bool.eq_false_iff.2 g155) ?_
                                exact TO.done (X.ob2 rfl (Pick.refl _))
                              · intro Es
                                refine TO.loadA rfl rfl rfl rfl TWLFlowAdds.a24 (List.Mem.head _) rfl ?_
                                exact TO.done (X.ob rfl (Pick.refl _))
                              · intro Es
                                refine TO.move rfl rfl rfl rfl ?_
                                exact TO.done (X.ob rfl (Pick.refl _))
                            refine TO.callX TWLFlowAdds.c30 rfl rfl rfl rfl (fun wc hwc => w_flow_Pre (n0 := r3) (f1 := both85) wc (hwc.rs (f := arcC) (s := 3) (xs := r3.Arcs) (j := j8) (fun _ => rfl) (List.Mem.tail _ (List.Mem.head _)) hn9 hc10 hz12) (hwc.rs (f := (intC .i64)) (s := 1) (xs := both85) (j := j89) (fun _ => rfl) (List.Mem.tail _ (List.Mem.tail _ (List.Mem.tail _ (List.Mem.tail _ (List.Mem.head _))))) hn90 hc91 hz93) e159) ?_
                            rintro _ _ ⟨rfl, rfl⟩
                            refine TO.pickF rfl rfl rfl rfl rfl ?_
                            refine TO.pickT rfl rfl rfl rfl rfl ?_
                            refine TO.move rfl rfl rfl rfl ?_
                            refine TO.decB (t := 156) (b' := true) rfl g160 ?_
                            refine TO.callX TWLFlowAdds.c32 rfl rfl rfl rfl (fun wc hwc => w_acequialaw03_awake  wc  e162) ?_
                            rintro _ _ ⟨rfl, rfl⟩
                            refine TO.pickT rfl rfl rfl rfl rfl ?_
                            refine TO.assign rfl rfl rfl rfl ?_
                            refine TO.done ?_
                            refine X.seq_normal ?_
                            refine T.ret ?_
                            obtain rfl := ret1 H
                            exact X.ret1 rfl rfl rfl rfl (Res.tmp rfl) Pick.nil ⟨rfl, rfl⟩
                          ·
                            apply T.drawQT [(126, _), (127, _), (128, _), (129, _), (130, _), (131, _), (132, _), (133, _), (134, _), (135, _), (136, _), (137, _), (138, _), (139, _), (140, _), (141, _), (142, _), (143, _), (144, _), (145, _), (146, _), (147, _), (148, _), (149, _), (150, _), (151, _), (152, _)]
                            · exact mixed
                            · kernel_rfl
                            · kernel_rfl
                            · exact rfl
                            · exact rfl
                            · refine ⟨?_, ?_, ?_, ?_, ?_, ?_, ?_, ?_, ?_, ?_, ?_, ?_, ?_, ?_, ?_, ?_, ?_, ?_, ?_, ?_, ?_, ?_, ?_, ?_, ?_, ?_, ?_, trivial⟩
                              · intro Es
                                refine TO.loadA rfl rfl rfl rfl TWLFlowAdds.a24 (List.Mem.head _) rfl ?_
                                exact TO.done (X.ob rfl (Pick.refl _))
                              · intro Es
                                refine TO.move rfl rfl rfl rfl ?_
                                exact TO.done (X.ob rfl (Pick.refl _))
                              · intro Es
                                refine TO.callX TWLFlowAdds.c31 rfl rfl rfl rfl (fun wc hwc => w_flow_Right (n0 := r3) (f1 := r37) wc (hwc.rs (f := arcC) (s := 3) (xs := r3.Arcs) (j := j8) (fun _ => rfl) (List.Mem.tail _ (List.Mem.head _)) hn9 hc10 hz12) (hwc.rs (f := (intC .i64)) (s := 1) (xs := r37) (j := j42) (fun _ => rfl) (List.Mem.tail _ (List.Mem.tail _ (List.Mem.head _))) hn43 hc44 hz46) e146) ?_
                                rintro _ _ ⟨rfl, rfl⟩
                                exact TO.done (X.ob rfl (Pick.refl _))
                              · intro Es
                                refine TO.not rfl rfl rfl rfl ?_
                                exact TO.done (X.ob rfl (Pick.refl _))
                              · intro Es
                                refine TO.move rfl rfl rfl rfl ?_
                                refine TO.decB (t := 130) (b' := true) rfl g147 ?_
                                exact TO.done (X.ob2 rfl (Pick.refl _))
                              · intro Es
                                refine TO.shut rfl rfl rfl rfl ?_
                                exact TO.done (X.ob rfl (Pick.refl _))
                              · intro Es
                                refine TO.shut rfl rfl rfl rfl ?_
                                exact TO.done (X.ob rfl (Pick.refl _))
                              · intro Es
                                refine TO.shut rfl rfl rfl rfl ?_
                                exact TO.done (X.ob rfl (Pick.refl _))
                              · intro Es
                                refine TO.shut rfl rfl rfl rfl ?_
                                exact TO.done (X.ob rfl (Pick.refl _))
                              · intro Es
                                refine TO.shut rfl rfl rfl rfl ?_
                                exact TO.done (X.ob rfl (Pick.refl _))
                              · intro Es
                                refine TO.shut rfl rfl rfl rfl ?_
                                exact TO.done (X.ob rfl (Pick.refl _))
                              · intro Es
                                refine TO.shut rfl rfl rfl rfl ?_
                                exact TO.done (X.ob rfl (Pick.refl _))
                              · intro Es
                                refine TO.pickT rfl rfl rfl rfl rfl ?_
                                exact TO.done (X.ob rfl (Pick.refl _))
                              · intro Es
                                refine TO.move rfl rfl rfl rfl ?_
                                exact TO.done (X.ob rfl (Pick.refl _))
                              · intro Es
                                refine TO.loadA rfl rfl rfl rfl TWLFlowAdds.a24 (List.Mem.head _) rfl ?_
                                exact TO.done (X.ob rfl (Pick.refl _))
                              · intro Es
                                refine TO.move rfl rfl rfl rfl ?_
                                exact TO.done (X.ob rfl (Pick.refl _))
                              · intro Es
                                refine TO.callX TWLFlowAdds.c30 rfl rfl rfl rfl (fun wc hwc => w_flow_Pre (n0 := r3) (f1 := r37) wc (hwc.rs (f := arcC) (s := 3) (xs := r3.Arcs) (j := j8) (fun _ => rfl) (List.Mem.tail _ (List.Mem.head _)) hn9 hc10 hz12) (hwc.rs (f := (intC .i64)) (s := 1) (xs := r37) (j := j42) (fun _ => rfl) (List.Mem.tail _ (List.Mem.tail _ (List.Mem.head _))) hn43 hc44 hz46) e149) ?_
                                rintro _ _ ⟨rfl, rfl⟩
                                exact TO.done (X.ob rfl (Pick.refl _))
                              · intro Es
                                refine TO.not rfl rfl rfl rfl ?_
                                exact TO.done (X.ob rfl (Pick.refl _))
                              · intro Es
                                refine TO.move rfl rfl rfl rfl ?_
                                refine TO.decB (t := 144) (b' := false) rfl (Bool.eq_false_iff.2 g150) ?_
                                exact TO.done (X.ob2 rfl (Pick.refl _))
                              · intro Es
                                refine TO.loadA rfl rfl rfl rfl TWLFlowAdds.a24 (List.Mem.head _) rfl ?_
                                exact TO.done (X.ob rfl (Pick.refl _))
                              · intro Es
                                refine TO.move rfl rfl rfl rfl ?_
                                exact TO.done (X.ob rfl (Pick.refl _))
                              · intro Es
                                refine TO.callX TWLFlowAdds.c30 rfl rfl rfl rfl (fun wc hwc => w_flow_Pre (n0 := r3) (f1 := r48) wc (hwc.rs (f := arcC) (s := 3) (xs := r3.Arcs) (j := j8) (fun _ => rfl) (List.Mem.tail _ (List.Mem.head _)) hn9 hc10 hz12) (hwc.rs (f := (intC .i64)) (s := 1) (xs := r48) (j := j53) (fun _ => rfl) (List.Mem.tail _ (List.Mem.tail _ (List.Mem.tail _ (List.Mem.head _)))) hn54 hc55 hz57) e154) ?_
                                rintro _ _ ⟨rfl, rfl⟩
                                exact TO.done (X.ob rfl (Pick.refl _))
                              · intro Es
                                refine TO.not rfl rfl rfl rfl ?_
                                exact TO.done (X.ob rfl (Pick.refl _))
                              · intro Es
                                refine TO.pickF rfl rfl rfl rfl rfl ?_
                                exact TO.done (X.ob rfl (Pick.refl _))
                              · intro Es
                                refine TO.move rfl rfl rfl rfl ?_
                                refine TO.decB (t := 150) (b' := false) rfl (Bool.eq_false_iff.2 g155) ?_
                                exact TO.done (X.ob2 rfl (Pick.refl _))
                              · intro Es
                                refine TO.loadA rfl rfl rfl rfl TWLFlowAdds.a24 (List.Mem.head _) rfl ?_
                                exact TO.done (X.ob rfl (Pick.refl _))
                              · intro Es
                                refine TO.move rfl rfl rfl rfl ?_
                                exact TO.done (X.ob rfl (Pick.refl _))
                            refine TO.callX TWLFlowAdds.c30 rfl rfl rfl rfl (fun wc hwc => w_flow_Pre (n0 := r3) (f1 := both85) wc (hwc.rs (f := arcC) (s := 3) (xs := r3.Arcs) (j := j8) (fun _ => rfl) (List.Mem.tail _ (List.Mem.head _)) hn9 hc10 hz12) (hwc.rs (f := (intC .i64)) (s := 1) (xs := both85) (j := j89) (fun _ => rfl) (List.Mem.tail _ (List.Mem.tail _ (List.Mem.tail _ (List.Mem.tail _ (List.Mem.head _))))) hn90 hc91 hz93) e159) ?_
                            rintro _ _ ⟨rfl, rfl⟩
                            refine TO.pickF rfl rfl rfl rfl rfl ?_
                            refine TO.pickT rfl rfl rfl rfl rfl ?_
                            refine TO.move rfl rfl rfl rfl ?_
                            refine TO.decB (t := 156) (b' := false) rfl (Bool.eq_false_iff.2 g160) ?_
                            refine TO.shut rfl rfl rfl rfl ?_
                            refine TO.pickF rfl rfl rfl rfl rfl ?_
                            refine TO.assign rfl rfl rfl rfl ?_
                            refine TO.done ?_
                            refine X.seq_normal ?_
                            refine T.ret ?_
                            obtain rfl := ret1 H
                            exact X.ret1 rfl rfl rfl rfl (Res.tmp rfl) Pick.nil ⟨rfl, rfl⟩
                    ·
                      obtain ⟨r163, e164, H⟩ := bd_some H
                      obtain ⟨r165, e166, H⟩ := bd_some H
                      rcases ite_some H with ⟨g167, H⟩ | ⟨g167, H⟩
                      ·
                        obtain ⟨r168, e169, H⟩ := bd_some H
                        rcases ite_some H with ⟨g170, H⟩ | ⟨g170, H⟩
                        ·
                          obtain ⟨r171, e172, H⟩ := bd_some H
                          apply T.drawQT [(126, _), (127, _), (128, _), (129, _), (130, _), (131, _), (132, _), (133, _), (134, _), (135, _), (136, _), (137, _), (138, _), (139, _), (140, _), (141, _), (142, _), (143, _), (144, _), (145, _), (146, _), (147, _), (148, _), (149, _), (150, _), (151, _), (152, _)]
                          · exact mixed
                          · kernel_rfl
                          · kernel_rfl
                          · exact rfl
                          · exact rfl
                          · refine ⟨?_, ?_, ?_, ?_, ?_, ?_, ?_, ?_, ?_, ?_, ?_, ?_, ?_, ?_, ?_, ?_, ?_, ?_, ?_, ?_, ?_, ?_, ?_, ?_, ?_, ?_, ?_, trivial⟩
                            · intro Es
                              refine TO.loadA rfl rfl rfl rfl TWLFlowAdds.a24 (List.Mem.head _) rfl ?_
                              exact TO.done (X.ob rfl (Pick.refl _))
                            · intro Es
                              refine TO.move rfl rfl rfl rfl ?_
                              exact TO.done (X.ob rfl (Pick.refl _))
                            · intro Es
                              refine TO.callX TWLFlowAdds.c31 rfl rfl rfl rfl (fun wc hwc => w_flow_Right (n0 := r3) (f1 := r37) wc (hwc.rs (f := arcC) (s := 3) (xs := r3.Arcs) (j := j8) (fun _ => rfl) (List.Mem.tail _ (List.Mem.head _)) hn9 hc10 hz12) (hwc.rs (f := (intC .i64)) (s := 1) (xs := r37) (j := j42) (fun _ => rfl) (List.Mem.tail _ (List.Mem.tail _ (List.Mem.head _))) hn43 hc44 hz46) e146) ?_
                              rintro _ _ ⟨rfl, rfl⟩
                              exact TO.done (X.ob rfl (Pick.refl _))
                            · intro Es
                              refine TO.not rfl rfl rfl rfl ?_
                              exact TO.done (X.ob rfl (Pick.refl _))
                            · intro Es
                              refine TO.move rfl rfl rfl rfl ?_
                              refine TO.decB (t := 130) (b' := false) rfl (Bool.eq_false_iff.2 g147) ?_
                              exact TO.done (X.ob2 rfl (Pick.refl _))
                            · intro Es
                              refine TO.loadA rfl rfl rfl rfl TWLFlowAdds.a24 (List.Mem.head _) rfl ?_
                              exact TO.done (X.ob rfl (Pick.refl _))
                            · intro Es
                              refine TO.move rfl rfl rfl rfl ?_
                              exact TO.done (X.ob rfl (Pick.refl _))
                            · intro Es
                              refine TO.callX TWLFlowAdds.c31 rfl rfl rfl rfl (fun wc hwc => w_flow_Right (n0 := r3) (f1 := both85) wc (hwc.rs (f := arcC) (s := 3) (xs := r3.Arcs) (j := j8) (fun _ => rfl) (List.Mem.tail _ (List.Mem.head _)) hn9 hc10 hz12) (hwc.rs (f := (intC .i64)) (s := 1) (xs := both85) (j := j89) (fun _ => rfl) (List.Mem.tail _ (List.Mem.tail _ (List.Mem.tail _ (List.Mem.tail _ (List.Mem.head _))))) hn90 hc91 hz93) e164) ?_
                              rintro _ _ ⟨rfl, rfl⟩
                              exact TO.done (X.ob rfl (Pick.refl _))
                            · intro Es
                              refine TO.loadA rfl rfl rfl rfl TWLFlowAdds.a24 (List.Mem.head _) rfl ?_
                              exact TO.done (X.ob rfl (Pick.refl _))
                            · intro Es
                              refine TO.move rfl rfl rfl rfl ?_
                              exact TO.done (X.ob rfl (Pick.refl _))
                            · intro Es
                              refine TO.callX TWLFlowAdds.c31 rfl rfl rfl rfl (fun wc hwc => w_flow_Right (n0 := r3) (f1 := r48) wc (hwc.rs (f := arcC) (s := 3) (xs := r3.Arcs) (j := j8) (fun _ => rfl) (List.Mem.tail _ (List.Mem.head _)) hn9 hc10 hz12) (hwc.rs (f := (intC .i64)) (s := 1) (xs := r48) (j := j53) (fun _ => rfl) (List.Mem.tail _ (List.Mem.tail _ (List.Mem.tail _ (List.Mem.head _)))) hn54 hc55 hz57) e166) ?_
                              rintro _ _ ⟨rfl, rfl⟩
                              exact TO.done (X.ob rfl (Pick.refl _))
                            · intro Es
                              refine TO.eqb rfl rfl rfl rfl rfl TWLFlowAdds.u4 ?_
                              exact TO.done (X.ob rfl (Pick.refl _))
                            · intro Es
                              refine TO.pickF rfl rfl rfl rfl rfl ?_
                              exact TO.done (X.ob rfl (Pick.refl _))
                            · intro Es
                              refine TO.move rfl rfl rfl rfl ?_
                              refine TO.decB (t := 139) (b' := true) rfl g167 ?_
                              exact TO.done (X.ob2 rfl (Pick.refl _))
                            · intro Es
                              refine TO.loadA rfl rfl rfl rfl TWLFlowAdds.a24 (List.Mem.head _) rfl ?_
                              exact TO.done (X.ob rfl (Pick.refl _))
                            · intro Es
                              refine TO.move rfl rfl rfl rfl ?_
                              exact TO.done (X.ob rfl (Pick.refl _))
                            · intro Es
                              refine TO.callX TWLFlowAdds.c30 rfl rfl rfl rfl (fun wc hwc => w_flow_Pre (n0 := r3) (f1 := r37) wc (hwc.rs (f := arcC) (s := 3) (xs := r3.Arcs) (j := j8) (fun _ => rfl) (List.Mem.tail _ (List.Mem.head _)) hn9 hc10 hz12) (hwc.rs (f := (intC .i64)) (s := 1) (xs := r37) (j := j42) (fun _ => rfl) (List.Mem.tail _ (List.Mem.tail _ (List.Mem.head _))) hn43 hc44 hz46) e169) ?_
                              rintro _ _ ⟨rfl, rfl⟩
                              exact TO.done (X.ob rfl (Pick.refl _))
                            · intro Es
                              refine TO.not rfl rfl rfl rfl ?_
                              exact TO.done (X.ob rfl (Pick.refl _))
                            · intro Es
                              refine TO.move rfl rfl rfl rfl ?_
                              refine TO.decB (t := 144) (b' := true) rfl g170 ?_
                              exact TO.done (X.ob2 rfl (Pick.refl _))
                            · intro Es
                              refine TO.shut rfl rfl rfl rfl ?_
                              exact TO.done (X.ob rfl (Pick.refl _))
                            · intro Es
                              refine TO.shut rfl rfl rfl rfl ?_
                              exact TO.done (X.ob rfl (Pick.refl _))
                            · intro Es
                              refine TO.shut rfl rfl rfl rfl ?_
                              exact TO.done (X.ob rfl (Pick.refl _))
                            · intro Es
                              refine TO.shut rfl rfl rfl rfl ?_
                              exact TO.done (X.ob rfl (Pick.refl _))
                            · intro Es
                              refine TO.pickT rfl rfl rfl rfl rfl ?_
                              exact TO.done (X.ob rfl (Pick.refl _))
                            · intro Es
                              refine TO.move rfl rfl rfl rfl ?_
                              exact TO.done (X.ob rfl (Pick.refl _))
                            · intro Es
                              refine TO.shut rfl rfl rfl rfl ?_
                              exact TO.done (X.ob rfl (Pick.refl _))
                            · intro Es
                              refine TO.shut rfl rfl rfl rfl ?_
                              exact TO.done (X.ob rfl (Pick.refl _))
                          refine TO.shut rfl rfl rfl rfl ?_
                          refine TO.pickT rfl rfl rfl rfl rfl ?_
                          refine TO.pickT rfl rfl rfl rfl rfl ?_
                          refine TO.move rfl rfl rfl rfl ?_
                          refine TO.callX TWLFlowAdds.c32 rfl rfl rfl rfl (fun wc hwc => w_acequialaw03_awake  wc  e172) ?_
                          rintro _ _ ⟨rfl, rfl⟩
                          refine TO.pickT rfl rfl rfl rfl rfl ?_
                          refine TO.assign rfl rfl rfl rfl ?_
                          refine TO.done ?_
                          refine X.seq_normal ?_
                          refine T.ret ?_
                          obtain rfl := ret1 H
                          exact X.ret1 rfl rfl rfl rfl (Res.tmp rfl) Pick.nil ⟨rfl, rfl⟩
                        ·
                          obtain ⟨r173, e174, H⟩ := bd_some H
                          rcases ite_some H with ⟨g175, H⟩ | ⟨g175, H⟩
                          ·
                            obtain ⟨r176, e177, H⟩ := bd_some H
                            apply T.drawQT [(126, _), (127, _), (128, _), (129, _), (130, _), (131, _), (132, _), (133, _), (134, _), (135, _), (136, _), (137, _), (138, _), (139, _), (140, _), (141, _), (142, _), (143, _), (144, _), (145, _), (146, _), (147, _), (148, _), (149, _), (150, _), (151, _), (152, _)]
                            · exact mixed
                            · kernel_rfl
                            · kernel_rfl
                            · exact rfl
                            · exact rfl
                            · refine ⟨?_, ?_, ?_, ?_, ?_, ?_, ?_, ?_, ?_, ?_, ?_, ?_, ?_, ?_, ?_, ?_, ?_, ?_, ?_, ?_, ?_, ?_, ?_, ?_, ?_, ?_, ?_, trivial⟩
                              · intro Es
                                refine TO.loadA rfl rfl rfl rfl TWLFlowAdds.a24 (List.Mem.head _) rfl ?_
                                exact TO.done (X.ob rfl (Pick.refl _))
                              · intro Es
                                refine TO.move rfl rfl rfl rfl ?_
                                exact TO.done (X.ob rfl (Pick.refl _))
                              · intro Es
                                refine TO.callX TWLFlowAdds.c31 rfl rfl rfl rfl (fun wc hwc => w_flow_Right (n0 := r3) (f1 := r37) wc (hwc.rs (f := arcC) (s := 3) (xs := r3.Arcs) (j := j8) (fun _ => rfl) (List.Mem.tail _ (List.Mem.head _)) hn9 hc10 hz12) (hwc.rs (f := (intC .i64)) (s := 1) (xs := r37) (j := j42) (fun _ => rfl) (List.Mem.tail _ (List.Mem.tail _ (List.Mem.head _))) hn43 hc44 hz46) e146) ?_
                                rintro _ _ ⟨rfl, rfl⟩
                                exact TO.done (X.ob rfl (Pick.refl _))
                              · intro Es
                                refine TO.not rfl rfl rfl rfl ?_
                                exact TO.done (X.ob rfl (Pick.refl _))
                              · intro Es
                                refine TO.move rfl rfl rfl rfl ?_
                                refine TO.decB (t := 130) (b' := false) rfl (Bool.eq_false_iff.2 g147) ?_
                                exact TO.done (X.ob2 rfl (Pick.refl _))
                              · intro Es
                                refine TO.loadA rfl rfl rfl rfl TWLFlowAdds.a24 (List.Mem.head _) rfl ?_
                                exact TO.done (X.ob rfl (Pick.refl _))
                              · intro Es
                                refine TO.move rfl rfl rfl rfl ?_
                                exact TO.done (X.ob rfl (Pick.refl _))
                              · intro Es
                                refine TO.callX TWLFlowAdds.c31 rfl rfl rfl rfl (fun wc hwc => w_flow_Right (n0 := r3) (f1 := both85) wc (hwc.rs (f := arcC) (s := 3) (xs := r3.Arcs) (j := j8) (fun _ => rfl) (List.Mem.tail _ (List.Mem.head _)) hn9 hc10 hz12) (hwc.rs (f := (intC .i64)) (s := 1) (xs := both85) (j := j89) (fun _ => rfl) (List.Mem.tail _ (List.Mem.tail _ (List.Mem.tail _ (List.Mem.tail _ (List.Mem.head _))))) hn90 hc91 hz93) e164) ?_
                                rintro _ _ ⟨rfl, rfl⟩
                                exact TO.done (X.ob rfl (Pick.refl _))
                              · intro Es
                                refine TO.loadA rfl rfl rfl rfl TWLFlowAdds.a24 (List.Mem.head _) rfl ?_
                                exact TO.done (X.ob rfl (Pick.refl _))
                              · intro Es
                                refine TO.move rfl rfl rfl rfl ?_
                                exact TO.done (X.ob rfl (Pick.refl _))
                              · intro Es
                                refine TO.callX TWLFlowAdds.c31 rfl rfl rfl rfl (fun wc hwc => w_flow_Right (n0 := r3) (f1 := r48) wc (hwc.rs (f := arcC) (s := 3) (xs := r3.Arcs) (j := j8) (fun _ => rfl) (List.Mem.tail _ (List.Mem.head _)) hn9 hc10 hz12) (hwc.rs (f := (intC .i64)) (s := 1) (xs := r48) (j := j53) (fun _ => rfl) (List.Mem.tail _ (List.Mem.tail _ (List.Mem.tail _ (List.Mem.head _)))) hn54 hc55 hz57) e166) ?_
                                rintro _ _ ⟨rfl, rfl⟩
                                exact TO.done (X.ob rfl (Pick.refl _))
                              · intro Es
                                refine TO.eqb rfl rfl rfl rfl rfl TWLFlowAdds.u4 ?_
                                exact TO.done (X.ob rfl (Pick.refl _))
                              · intro Es
                                refine TO.pickF rfl rfl rfl rfl rfl ?_
                                exact TO.done (X.ob rfl (Pick.refl _))
                              · intro Es
                                refine TO.move rfl rfl rfl rfl ?_
                                refine TO.decB (t := 139) (b' := true) rfl g167 ?_
                                exact TO.done (X.ob2 rfl (Pick.refl _))
                              · intro Es
                                refine TO.loadA rfl rfl rfl rfl TWLFlowAdds.a24 (List.Mem.head _) rfl ?_
                                exact TO.done (X.ob rfl (Pick.refl _))
                              · intro Es
                                refine TO.move rfl rfl rfl rfl ?_
                                exact TO.done (X.ob rfl (Pick.refl _))
                              · intro Es
                                refine TO.callX TWLFlowAdds.c30 rfl rfl rfl rfl (fun wc hwc => w_flow_Pre (n0 := r3) (f1 := r37) wc (hwc.rs (f := arcC) (s := 3) (xs := r3.Arcs) (j := j8) (fun _ => rfl) (List.Mem.tail _ (List.Mem.head _)) hn9 hc10 hz12) (hwc.rs (f := (intC .i64)) (s := 1) (xs := r37) (j := j42) (fun _ => rfl) (List.Mem.tail _ (List.Mem.tail _ (List.Mem.head _))) hn43 hc44 hz46) e169) ?_
                                rintro _ _ ⟨rfl, rfl⟩
                                exact TO.done (X.ob rfl (Pick.refl _))
                              · intro Es
                                refine TO.not rfl rfl rfl rfl ?_
                                exact TO.done (X.ob rfl (Pick.refl _))
                              · intro Es
                                refine TO.move rfl rfl rfl rfl ?_
                                refine TO.decB (t := 144) (b' := false) rfl (Bool.eq_false_iff.2 g170) ?_
                                exact TO.done (X.ob2 rfl (Pick.refl _))
                              · intro Es
                                refine TO.loadA rfl rfl rfl rfl TWLFlowAdds.a24 (List.Mem.head _) rfl ?_
                                exact TO.done (X.ob rfl (Pick.refl _))
                              · intro Es
                                refine TO.move rfl rfl rfl rfl ?_
                                exact TO.done (X.ob rfl (Pick.refl _))
                              · intro Es
                                refine TO.callX TWLFlowAdds.c30 rfl rfl rfl rfl (fun wc hwc => w_flow_Pre (n0 := r3) (f1 := r48) wc (hwc.rs (f := arcC) (s := 3) (xs := r3.Arcs) (j := j8) (fun _ => rfl) (List.Mem.tail _ (List.Mem.head _)) hn9 hc10 hz12) (hwc.rs (f := (intC .i64)) (s := 1) (xs := r48) (j := j53) (fun _ => rfl) (List.Mem.tail _ (List.Mem.tail _ (List.Mem.tail _ (List.Mem.head _)))) hn54 hc55 hz57) e174) ?_
                                rintro _ _ ⟨rfl, rfl⟩
                                exact TO.done (X.ob rfl (Pick.refl _))
                              · intro Es
                                refine TO.not rfl rfl rfl rfl ?_
                                exact TO.done (X.ob rfl (Pick.refl _))
                              · intro Es
                                refine TO.pickF rfl rfl rfl rfl rfl ?_
                                exact TO.done (X.ob rfl (Pick.refl _))
                              · intro Es
                                refine TO.move rfl rfl rfl rfl ?_
                                refine TO.decB (t := 150) (b' := true) rfl g175 ?_
                                exact TO.done (X.ob2 rfl (Pick.refl _))
                              · intro Es
                                refine TO.shut rfl rfl rfl rfl ?_
                                exact TO.done (X.ob rfl (Pick.refl _))
                              · intro Es
                                refine TO.shut rfl rfl rfl rfl ?_
                                exact TO.done (X.ob rfl (Pick.refl _))
                            refine TO.shut rfl rfl rfl rfl ?_
                            refine TO.pickT rfl rfl rfl rfl rfl ?_
                            refine TO.pickT rfl rfl rfl rfl rfl ?_
                            refine TO.move rfl rfl rfl rfl ?_
                            refine TO.callX TWLFlowAdds.c32 rfl rfl rfl rfl (fun wc hwc => w_acequialaw03_awake  wc  e177) ?_
                            rintro _ _ ⟨rfl, rfl⟩
                            refine TO.pickT rfl rfl rfl rfl rfl ?_
                            refine TO.assign rfl rfl rfl rfl ?_
                            refine TO.done ?_
                            refine X.seq_normal ?_
                            refine T.ret ?_
                            obtain rfl := ret1 H
                            exact X.ret1 rfl rfl rfl rfl (Res.tmp rfl) Pick.nil ⟨rfl, rfl⟩
                          ·
                            obtain ⟨r178, e179, H⟩ := bd_some H
                            rcases ite_some H with ⟨g180, H⟩ | ⟨g180, H⟩
                            ·
                              obtain ⟨r181, e182, H⟩ := bd_some H
                              apply T.drawQT [(126, _), (127, _), (128, _), (129, _), (130, _), (131, _), (132, _), (133, _), (134, _), (135, _), (136, _), (137, _), (138, _), (139, _), (140, _), (141, _), (142, _), (143, _), (144, _), (145, _), (146, _), (147, _), (148, _), (149, _), (150, _), (151, _), (152, _)]
                              · exact mixed
                              · kernel_rfl
                              · kernel_rfl
                              · exact rfl
                              · exact rfl
                              · refine ⟨?_, ?_, ?_, ?_, ?_, ?_, ?_, ?_, ?_, ?_, ?_, ?_, ?_, ?_, ?_, ?_, ?_, ?_, ?_, ?_, ?_, ?_, ?_, ?_, ?_, ?_, ?_, trivial⟩
                                · intro Es
                                  refine TO.loadA rfl rfl rfl rfl TWLFlowAdds.a24 (List.Mem.head _) rfl ?_
                                  exact TO.done (X.ob rfl (Pick.refl _))
                                · intro Es
                                  refine TO.move rfl rfl rfl rfl ?_
                                  exact TO.done (X.ob rfl (Pick.refl _))
                                · intro Es
                                  refine TO.callX TWLFlowAdds.c31 rfl rfl rfl rfl (fun wc hwc => w_flow_Right (n0 := r3) (f1 := r37) wc (hwc.rs (f := arcC) (s := 3) (xs := r3.Arcs) (j := j8) (fun _ => rfl) (List.Mem.tail _ (List.Mem.head _)) hn9 hc10 hz12) (hwc.rs (f := (intC .i64)) (s := 1) (xs := r37) (j := j42) (fun _ => rfl) (List.Mem.tail _ (List.Mem.tail _ (List.Mem.head _))) hn43 hc44 hz46) e146) ?_
                                  rintro _ _ ⟨rfl, rfl⟩
                                  exact TO.done (X.ob rfl (Pick.refl _))
                                · intro Es
                                  refine TO.not rfl rfl rfl rfl ?_
                                  exact TO.done (X.ob rfl (Pick.refl _))
                                · intro Es
                                  refine TO.move rfl rfl rfl rfl ?_
                                  refine TO.decB (t := 130) (b' := false) rfl (Bool.eq_false_iff.2 g147) ?_
                                  exact TO.done (X.ob2 rfl (Pick.refl _))
                                · intro Es
                                  refine TO.loadA rfl rfl rfl rfl TWLFlowAdds.a24 (List.Mem.head _) rfl ?_
                                  exact TO.done (X.ob rfl (Pick.refl _))
                                · intro Es
                                  refine TO.move rfl rfl rfl rfl ?_
                                  exact TO.done (X.ob rfl (Pick.refl _))
                                · intro Es
                                  refine TO.callX TWLFlowAdds.c31 rfl rfl rfl rfl (fun wc hwc => w_flow_Right (n0 := r3) (f1 := both85) wc (hwc.rs (f := arcC) (s := 3) (xs := r3.Arcs) (j := j8) (fun _ => rfl) (List.Mem.tail _ (List.Mem.head _)) hn9 hc10 hz12) (hwc.rs (f := (intC .i64)) (s := 1) (xs := both85) (j := j89) (fun _ => rfl) (List.Mem.tail _ (List.Mem.tail _ (List.Mem.tail _ (List.Mem.tail _ (List.Mem.head _))))) hn90 hc91 hz93) e164) ?_
                                  rintro _ _ ⟨rfl, rfl⟩
                                  exact TO.done (X.ob rfl (Pick.refl _))
                                · intro Es
                                  refine TO.loadA rfl rfl rfl rfl TWLFlowAdds.a24 (List.Mem.head _) rfl ?_
                                  exact TO.done (X.ob rfl (Pick.refl _))
                                · intro Es
                                  refine TO.move rfl rfl rfl rfl ?_
                                  exact TO.done (X.ob rfl (Pick.refl _))
                                · intro Es
                                  refine TO.callX TWLFlowAdds.c31 rfl rfl rfl rfl (fun wc hwc => w_flow_Right (n0 := r3) (f1 := r48) wc (hwc.rs (f := arcC) (s := 3) (xs := r3.Arcs) (j := j8) (fun _ => rfl) (List.Mem.tail _ (List.Mem.head _)) hn9 hc10 hz12) (hwc.rs (f := (intC .i64)) (s := 1) (xs := r48) (j := j53) (fun _ => rfl) (List.Mem.tail _ (List.Mem.tail _ (List.Mem.tail _ (List.Mem.head _)))) hn54 hc55 hz57) e166) ?_
                                  rintro _ _ ⟨rfl, rfl⟩
                                  exact TO.done (X.ob rfl (Pick.refl _))
                                · intro Es
                                  refine TO.eqb rfl rfl rfl rfl rfl TWLFlowAdds.u4 ?_
                                  exact TO.done (X.ob rfl (Pick.refl _))
                                · intro Es
                                  refine TO.pickF rfl rfl rfl rfl rfl ?_
                                  exact TO.done (X.ob rfl (Pick.refl _))
                                · intro Es
                                  refine TO.move rfl rfl rfl rfl ?_
                                  refine TO.decB (t := 139) (b' := true) rfl g167 ?_
                                  exact TO.done (X.ob2 rfl (Pick.refl _))
                                · intro Es
                                  refine TO.loadA rfl rfl rfl rfl TWLFlowAdds.a24 (List.Mem.head _) rfl ?_
                                  exact TO.done (X.ob rfl (Pick.refl _))
                                · intro Es
                                  refine TO.move rfl rfl rfl rfl ?_
                                  exact TO.done (X.ob rfl (Pick.refl _))
                                · intro Es
                                  refine TO.callX TWLFlowAdds.c30 rfl rfl rfl rfl (fun wc hwc => w_flow_Pre (n0 := r3) (f1 := r37) wc (hwc.rs (f := arcC) (s := 3) (xs := r3.Arcs) (j := j8) (fun _ => rfl) (List.Mem.tail _ (List.Mem.head _)) hn9 hc10 hz12) (hwc.rs (f := (intC .i64)) (s := 1) (xs := r37) (j := j42) (fun _ => rfl) (List.Mem.tail _ (List.Mem.tail _ (List.Mem.head _))) hn43 hc44 hz46) e169) ?_
                                  rintro _ _ ⟨rfl, rfl⟩
                                  exact TO.done (X.ob rfl (Pick.refl _))
                                · intro Es
                                  refine TO.not rfl rfl rfl rfl ?_
                                  exact TO.done (X.ob rfl (Pick.refl _))
                                · intro Es
                                  refine TO.move rfl rfl rfl rfl ?_
                                  refine TO.decB (t := 144) (b' := false) rfl (Bool.eq_false_iff.2 g170) ?_
                                  exact TO.done (X.ob2 rfl (Pick.refl _))
                                · intro Es
                                  refine TO.loadA rfl rfl rfl rfl TWLFlowAdds.a24 (List.Mem.head _) rfl ?_
                                  exact TO.done (X.ob rfl (Pick.refl _))
                                · intro Es
                                  refine TO.move rfl rfl rfl rfl ?_
                                  exact TO.done (X.ob rfl (Pick.refl _))
                                · intro Es
                                  refine TO.callX TWLFlowAdds.c30 rfl rfl rfl rfl (fun wc hwc => w_flow_Pre (n0 := r3) (f1 := r48) wc (hwc.rs (f := arcC) (s := 3) (xs := r3.Arcs) (j := j8) (fun _ => rfl) (List.Mem.tail _ (List.Mem.head _)) hn9 hc10 hz12) (hwc.rs (f := (intC .i64)) (s := 1) (xs := r48) (j := j53) (fun _ => rfl) (List.Mem.tail _ (List.Mem.tail _ (List.Mem.tail _ (List.Mem.head _)))) hn54 hc55 hz57) e174) ?_
                                  rintro _ _ ⟨rfl, rfl⟩
                                  exact TO.done (X.ob rfl (Pick.refl _))
                                · intro Es
                                  refine TO.not rfl rfl rfl rfl ?_
                                  exact TO.done (X.ob rfl (Pick.refl _))
                                · intro Es
                                  refine TO.pickF rfl rfl rfl rfl rfl ?_
                                  exact TO.done (X.ob rfl (Pick.refl _))
                                · intro Es
                                  refine TO.move rfl rfl rfl rfl ?_
                                  refine TO.decB (t := 150) (b' := false) rfl (Bool.eq_false_iff.2 g175) ?_
                                  exact TO.done (X.ob2 rfl (Pick.refl _))
                                · intro Es
                                  refine TO.loadA rfl rfl rfl rfl TWLFlowAdds.a24 (List.Mem.head _) rfl ?_
                                  exact TO.done (X.ob rfl (Pick.refl _))
                                · intro Es
                                  refine TO.move rfl rfl rfl rfl ?_
                                  exact TO.done (X.ob rfl (Pick.refl _))
                              refine TO.callX TWLFlowAdds.c30 rfl rfl rfl rfl (fun wc hwc => w_flow_Pre (n0 := r3) (f1 := both85) wc (hwc.rs (f := arcC) (s := 3) (xs := r3.Arcs) (j := j8) (fun _ => rfl) (List.Mem.tail _ (List.Mem.head _)) hn9 hc10 hz12) (hwc.rs (f := (intC .i64)) (s := 1) (xs := both85) (j := j89) (fun _ => rfl) (List.Mem.tail _ (List.Mem.tail _ (List.Mem.tail _ (List.Mem.tail _ (List.Mem.head _))))) hn90 hc91 hz93) e179) ?_
                              rintro _ _ ⟨rfl, rfl⟩
                              refine TO.pickF rfl rfl rfl rfl rfl ?_
                              refine TO.pickT rfl rfl rfl rfl rfl ?_
                              refine TO.move rfl rfl rfl rfl ?_
                              refine TO.decB (t := 156) (b' := true) rfl g180 ?_
                              refine TO.callX TWLFlowAdds.c32 rfl rfl rfl rfl (fun wc hwc => w_acequialaw03_awake  wc  e182) ?_
                              rintro _ _ ⟨rfl, rfl⟩
                              refine TO.pickT rfl rfl rfl rfl rfl ?_
                              refine TO.assign rfl rfl rfl rfl ?_
                              refine TO.done ?_
                              refine X.seq_normal ?_
                              refine T.ret ?_
                              obtain rfl := ret1 H
                              exact X.ret1 rfl rfl rfl rfl (Res.tmp rfl) Pick.nil ⟨rfl, rfl⟩
                            ·
                              apply T.drawQT [(126, _), (127, _), (128, _), (129, _), (130, _), (131, _), (132, _), (133, _), (134, _), (135, _), (136, _), (137, _), (138, _), (139, _), (140, _), (141, _), (142, _), (143, _), (144, _), (145, _), (146, _), (147, _), (148, _), (149, _), (150, _), (151, _), (152, _)]
                              · exact mixed
                              · kernel_rfl
                              · kernel_rfl
                              · exact rfl
                              · exact rfl
                              · refine ⟨?_, ?_, ?_, ?_, ?_, ?_, ?_, ?_, ?_, ?_, ?_, ?_, ?_, ?_, ?_, ?_, ?_, ?_, ?_, ?_, ?_, ?_, ?_, ?_, ?_, ?_, ?_, trivial⟩
                                · intro Es
                                  refine TO.loadA rfl rfl rfl rfl TWLFlowAdds.a24 (List.Mem.head _) rfl ?_
                                  exact TO.done (X.ob rfl (Pick.refl _))
                                · intro Es
                                  refine TO.move rfl rfl rfl rfl ?_
                                  exact TO.done (X.ob rfl (Pick.refl _))
                                · intro Es
                                  refine TO.callX TWLFlowAdds.c31 rfl rfl rfl rfl (fun wc hwc => w_flow_Right (n0 := r3) (f1 := r37) wc (hwc.rs (f := arcC) (s := 3) (xs := r3.Arcs) (j := j8) (fun _ => rfl) (List.Mem.tail _ (List.Mem.head _)) hn9 hc10 hz12) (hwc.rs (f := (intC .i64)) (s := 1) (xs := r37) (j := j42) (fun _ => rfl) (List.Mem.tail _ (List.Mem.tail _ (List.Mem.head _))) hn43 hc44 hz46) e146) ?_
                                  rintro _ _ ⟨rfl, rfl⟩
                                  exact TO.done (X.ob rfl (Pick.refl _))
                                · intro Es
                                  refine TO.not rfl rfl rfl rfl ?_
                                  exact TO.done (X.ob rfl (Pick.refl _))
                                · intro Es
                                  refine TO.move rfl rfl rfl rfl ?_
                                  refine TO.decB (t := 130) (b' := false) rfl (Bool.eq_false_iff.2 g147) ?_
                                  exact TO.done (X.ob2 rfl (Pick.refl _))
                                · intro Es
                                  refine TO.loadA rfl rfl rfl rfl TWLFlowAdds.a24 (List.Mem.head _) rfl ?_
                                  exact TO.done (X.ob rfl (Pick.refl _))
                                · intro Es
                                  refine TO.move rfl rfl rfl rfl ?_
                                  exact TO.done (X.ob rfl (Pick.refl _))
                                · intro Es
                                  refine TO.callX TWLFlowAdds.c31 rfl rfl rfl rfl (fun wc hwc => w_flow_Right (n0 := r3) (f1 := both85) wc (hwc.rs (f := arcC) (s := 3) (xs := r3.Arcs) (j := j8) (fun _ => rfl) (List.Mem.tail _ (List.Mem.head _)) hn9 hc10 hz12) (hwc.rs (f := (intC .i64)) (s := 1) (xs := both85) (j := j89) (fun _ => rfl) (List.Mem.tail _ (List.Mem.tail _ (List.Mem.tail _ (List.Mem.tail _ (List.Mem.head _))))) hn90 hc91 hz93) e164) ?_
                                  rintro _ _ ⟨rfl, rfl⟩
                                  exact TO.done (X.ob rfl (Pick.refl _))
                                · intro Es
                                  refine TO.loadA rfl rfl rfl rfl TWLFlowAdds.a24 (List.Mem.head _) rfl ?_
                                  exact TO.done (X.ob rfl (Pick.refl _))
                                · intro Es
                                  refine TO.move rfl rfl rfl rfl ?_
                                  exact TO.done (X.ob rfl (Pick.refl _))
                                · intro Es
                                  refine TO.callX TWLFlowAdds.c31 rfl rfl rfl rfl (fun wc hwc => w_flow_Right (n0 := r3) (f1 := r48) wc (hwc.rs (f := arcC) (s := 3) (xs := r3.Arcs) (j := j8) (fun _ => rfl) (List.Mem.tail _ (List.Mem.head _)) hn9 hc10 hz12) (hwc.rs (f := (intC .i64)) (s := 1) (xs := r48) (j := j53) (fun _ => rfl) (List.Mem.tail _ (List.Mem.tail _ (List.Mem.tail _ (List.Mem.head _)))) hn54 hc55 hz57) e166) ?_
                                  rintro _ _ ⟨rfl, rfl⟩
                                  exact TO.done (X.ob rfl (Pick.refl _))
                                · intro Es
                                  refine TO.eqb rfl rfl rfl rfl rfl TWLFlowAdds.u4 ?_
                                  exact TO.done (X.ob rfl (Pick.refl _))
                                · intro Es
                                  refine TO.pickF rfl rfl rfl rfl rfl ?_
                                  exact TO.done (X.ob rfl (Pick.refl _))
                                · intro Es
                                  refine TO.move rfl rfl rfl rfl ?_
                                  refine TO.decB (t := 139) (b' := true) rfl g167 ?_
                                  exact TO.done (X.ob2 rfl (Pick.refl _))
                                · intro Es
                                  refine TO.loadA rfl rfl rfl rfl TWLFlowAdds.a24 (List.Mem.head _) rfl ?_
                                  exact TO.done (X.ob rfl (Pick.refl _))
                                · intro Es
                                  refine TO.move rfl rfl rfl rfl ?_
                                  exact TO.done (X.ob rfl (Pick.refl _))
                                · intro Es
                                  refine TO.callX TWLFlowAdds.c30 rfl rfl rfl rfl (fun wc hwc => w_flow_Pre (n0 := r3) (f1 := r37) wc (hwc.rs (f := arcC) (s := 3) (xs := r3.Arcs) (j := j8) (fun _ => rfl) (List.Mem.tail _ (List.Mem.head _)) hn9 hc10 hz12) (hwc.rs (f := (intC .i64)) (s := 1) (xs := r37) (j := j42) (fun _ => rfl) (List.Mem.tail _ (List.Mem.tail _ (List.Mem.head _))) hn43 hc44 hz46) e169) ?_
                                  rintro _ _ ⟨rfl, rfl⟩
                                  exact TO.done (X.ob rfl (Pick.refl _))
                                · intro Es
                                  refine TO.not rfl rfl rfl rfl ?_
                                  exact TO.done (X.ob rfl (Pick.refl _))
                                · intro Es
                                  refine TO.move rfl rfl rfl rfl ?_
                                  refine TO.decB (t := 144) (b' := false) rfl (Bool.eq_false_iff.2 g170) ?_
                                  exact TO.done (X.ob2 rfl (Pick.refl _))
                                · intro Es
                                  refine TO.loadA rfl rfl rfl rfl TWLFlowAdds.a24 (List.Mem.head _) rfl ?_
                                  exact TO.done (X.ob rfl (Pick.refl _))
                                · intro Es
                                  refine TO.move rfl rfl rfl rfl ?_
                                  exact TO.done (X.ob rfl (Pick.refl _))
                                · intro Es
                                  refine TO.callX TWLFlowAdds.c30 rfl rfl rfl rfl (fun wc hwc => w_flow_Pre (n0 := r3) (f1 := r48) wc (hwc.rs (f := arcC) (s := 3) (xs := r3.Arcs) (j := j8) (fun _ => rfl) (List.Mem.tail _ (List.Mem.head _)) hn9 hc10 hz12) (hwc.rs (f := (intC .i64)) (s := 1) (xs := r48) (j := j53) (fun _ => rfl) (List.Mem.tail _ (List.Mem.tail _ (List.Mem.tail _ (List.Mem.head _)))) hn54 hc55 hz57) e174) ?_
                                  rintro _ _ ⟨rfl, rfl⟩
                                  exact TO.done (X.ob rfl (Pick.refl _))
                                · intro Es
                                  refine TO.not rfl rfl rfl rfl ?_
                                  exact TO.done (X.ob rfl (Pick.refl _))
                                · intro Es
                                  refine TO.pickF rfl rfl rfl rfl rfl ?_
                                  exact TO.done (X.ob rfl (Pick.refl _))
                                · intro Es
                                  refine TO.move rfl rfl rfl rfl ?_
                                  refine TO.decB (t := 150) (b' := false) rfl (Bool.eq_false_iff.2 g175) ?_
                                  exact TO.done (X.ob2 rfl (Pick.refl _))
                                · intro Es
                                  refine TO.loadA rfl rfl rfl rfl TWLFlowAdds.a24 (List.Mem.head _) rfl ?_
                                  exact TO.done (X.ob rfl (Pick.refl _))
                                · intro Es
                                  refine TO.move rfl rfl rfl rfl ?_
                                  exact TO.done (X.ob rfl (Pick.refl _))
                              refine TO.callX TWLFlowAdds.c30 rfl rfl rfl rfl (fun wc hwc => w_flow_Pre (n0 := r3) (f1 := both85) wc (hwc.rs (f := arcC) (s := 3) (xs := r3.Arcs) (j := j8) (fun _ => rfl) (List.Mem.tail _ (List.Mem.head _)) hn9 hc10 hz12) (hwc.rs (f := (intC .i64)) (s := 1) (xs := both85) (j := j89) (fun _ => rfl) (List.Mem.tail _ (List.Mem.tail _ (List.Mem.tail _ (List.Mem.tail _ (List.Mem.head _))))) hn90 hc91 hz93) e179) ?_
                              rintro _ _ ⟨rfl, rfl⟩
                              refine TO.pickF rfl rfl rfl rfl rfl ?_
                              refine TO.pickT rfl rfl rfl rfl rfl ?_
                              refine TO.move rfl rfl rfl rfl ?_
                              refine TO.decB (t := 156) (b' := false) rfl (Bool.eq_false_iff.2 g180) ?_
                              refine TO.shut rfl rfl rfl rfl ?_
                              refine TO.pickF rfl rfl rfl rfl rfl ?_
                              refine TO.assign rfl rfl rfl rfl ?_
                              refine TO.done ?_
                              refine X.seq_normal ?_
                              refine T.ret ?_
                              obtain rfl := ret1 H
                              exact X.ret1 rfl rfl rfl rfl (Res.tmp rfl) Pick.nil ⟨rfl, rfl⟩
                      ·
                        apply T.drawQT [(126, _), (127, _), (128, _), (129, _), (130, _), (131, _), (132, _), (133, _), (134, _), (135, _), (136, _), (137, _), (138, _), (139, _), (140, _), (141, _), (142, _), (143, _), (144, _), (145, _), (146, _), (147, _), (148, _), (149, _), (150, _), (151, _), (152, _)]
                        · exact mixed
                        · kernel_rfl
                        · kernel_rfl
                        · exact rfl
                        · exact rfl
                        · refine ⟨?_, ?_, ?_, ?_, ?_, ?_, ?_, ?_, ?_, ?_, ?_, ?_, ?_, ?_, ?_, ?_, ?_, ?_, ?_, ?_, ?_, ?_, ?_, ?_, ?_, ?_, ?_, trivial⟩
                          · intro Es
                            refine TO.loadA rfl rfl rfl rfl TWLFlowAdds.a24 (List.Mem.head _) rfl ?_
                            exact TO.done (X.ob rfl (Pick.refl _))
                          · intro Es
                            refine TO.move rfl rfl rfl rfl ?_
                            exact TO.done (X.ob rfl (Pick.refl _))
                          · intro Es
                            refine TO.callX TWLFlowAdds.c31 rfl rfl rfl rfl (fun wc hwc => w_flow_Right (n0 := r3) (f1 := r37) wc (hwc.rs (f := arcC) (s := 3) (xs := r3.Arcs) (j := j8) (fun _ => rfl) (List.Mem.tail _ (List.Mem.head _)) hn9 hc10 hz12) (hwc.rs (f := (intC .i64)) (s := 1) (xs := r37) (j := j42) (fun _ => rfl) (List.Mem.tail _ (List.Mem.tail _ (List.Mem.head _))) hn43 hc44 hz46) e146) ?_
                            rintro _ _ ⟨rfl, rfl⟩
                            exact TO.done (X.ob rfl (Pick.refl _))
                          · intro Es
                            refine TO.not rfl rfl rfl rfl ?_
                            exact TO.done (X.ob rfl (Pick.refl _))
                          · intro Es
                            refine TO.move rfl rfl rfl rfl ?_
                            refine TO.decB (t := 130) (b' := false) rfl (Bool.eq_false_iff.2 g147) ?_
                            exact TO.done (X.ob2 rfl (Pick.refl _))
                          · intro Es
                            refine TO.loadA rfl rfl rfl rfl TWLFlowAdds.a24 (List.Mem.head _) rfl ?_
                            exact TO.done (X.ob rfl (Pick.refl _))
                          · intro Es
                            refine TO.move rfl rfl rfl rfl ?_
                            exact TO.done (X.ob rfl (Pick.refl _))
                          · intro Es
                            refine TO.callX TWLFlowAdds.c31 rfl rfl rfl rfl (fun wc hwc => w_flow_Right (n0 := r3) (f1 := both85) wc (hwc.rs (f := arcC) (s := 3) (xs := r3.Arcs) (j := j8) (fun _ => rfl) (List.Mem.tail _ (List.Mem.head _)) hn9 hc10 hz12) (hwc.rs (f := (intC .i64)) (s := 1) (xs := both85) (j := j89) (fun _ => rfl) (List.Mem.tail _ (List.Mem.tail _ (List.Mem.tail _ (List.Mem.tail _ (List.Mem.head _))))) hn90 hc91 hz93) e164) ?_
                            rintro _ _ ⟨rfl, rfl⟩
                            exact TO.done (X.ob rfl (Pick.refl _))
                          · intro Es
                            refine TO.loadA rfl rfl rfl rfl TWLFlowAdds.a24 (List.Mem.head _) rfl ?_
                            exact TO.done (X.ob rfl (Pick.refl _))
                          · intro Es
                            refine TO.move rfl rfl rfl rfl ?_
                            exact TO.done (X.ob rfl (Pick.refl _))
                          · intro Es
                            refine TO.callX TWLFlowAdds.c31 rfl rfl rfl rfl (fun wc hwc => w_flow_Right (n0 := r3) (f1 := r48) wc (hwc.rs (f := arcC) (s := 3) (xs := r3.Arcs) (j := j8) (fun _ => rfl) (List.Mem.tail _ (List.Mem.head _)) hn9 hc10 hz12) (hwc.rs (f := (intC .i64)) (s := 1) (xs := r48) (j := j53) (fun _ => rfl) (List.Mem.tail _ (List.Mem.tail _ (List.Mem.tail _ (List.Mem.head _)))) hn54 hc55 hz57) e166) ?_
                            rintro _ _ ⟨rfl, rfl⟩
                            exact TO.done (X.ob rfl (Pick.refl _))
                          · intro Es
                            refine TO.eqb rfl rfl rfl rfl rfl TWLFlowAdds.u4 ?_
                            exact TO.done (X.ob rfl (Pick.refl _))
                          · intro Es
                            refine TO.pickF rfl rfl rfl rfl rfl ?_
                            exact TO.done (X.ob rfl (Pick.refl _))
                          · intro Es
                            refine TO.move rfl rfl rfl rfl ?_
                            refine TO.decB (t := 139) (b' := false) rfl (Bool.eq_false_iff.2 g167) ?_
                            exact TO.done (X.ob2 rfl (Pick.refl _))
                          · intro Es
                            refine TO.shut rfl rfl rfl rfl ?_
                            exact TO.done (X.ob rfl (Pick.refl _))
                          · intro Es
                            refine TO.shut rfl rfl rfl rfl ?_
                            exact TO.done (X.ob rfl (Pick.refl _))
                          · intro Es
                            refine TO.shut rfl rfl rfl rfl ?_
                            exact TO.done (X.ob rfl (Pick.refl _))
                          · intro Es
                            refine TO.shut rfl rfl rfl rfl ?_
                            exact TO.done (X.ob rfl (Pick.refl _))
                          · intro Es
                            refine TO.shut rfl rfl rfl rfl ?_
                            exact TO.done (X.ob rfl (Pick.refl _))
                          · intro Es
                            refine TO.shutU rfl rfl rfl rfl ?_
                            exact TO.done (X.ob rfl (Pick.refl _))
                          · intro Es
                            refine TO.shutU rfl rfl rfl rfl ?_
                            exact TO.done (X.ob rfl (Pick.refl _))
                          · intro Es
                            refine TO.shutU rfl rfl rfl rfl ?_
                            exact TO.done (X.ob rfl (Pick.refl _))
                          · intro Es
                            refine TO.shutU rfl rfl rfl rfl ?_
                            exact TO.done (X.ob rfl (Pick.refl _))
                          · intro Es
                            refine TO.shut rfl rfl rfl rfl ?_
                            exact TO.done (X.ob rfl (Pick.refl _))
                          · intro Es
                            refine TO.shut rfl rfl rfl rfl ?_
                            exact TO.done (X.ob rfl (Pick.refl _))
                          · intro Es
                            refine TO.shutU rfl rfl rfl rfl ?_
                            exact TO.done (X.ob rfl (Pick.refl _))
                          · intro Es
                            refine TO.shutU rfl rfl rfl rfl ?_
                            exact TO.done (X.ob rfl (Pick.refl _))
                        refine TO.shutU rfl rfl rfl rfl ?_
                        refine TO.shut rfl rfl rfl rfl ?_
                        refine TO.pickF rfl rfl rfl rfl rfl ?_
                        refine TO.move rfl rfl rfl rfl ?_
                        refine TO.shut rfl rfl rfl rfl ?_
                        refine TO.pickF rfl rfl rfl rfl rfl ?_
                        refine TO.assign rfl rfl rfl rfl ?_
                        refine TO.done ?_
                        refine X.seq_normal ?_
                        refine T.ret ?_
                        obtain rfl := ret1 H
                        exact X.ret1 rfl rfl rfl rfl (Res.tmp rfl) Pick.nil ⟨rfl, rfl⟩
end Go.Proofs.Ytcdbemdogkmahaa.Ax
