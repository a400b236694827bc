/- What a call does is what its model says: acequialaw03.FlowTurns, api.Arc], net.Copy, net.Turn. (Printed by sx.py.) -/
import Derived.Test.YtcdbemdogkmahaaAcqMLFlowTurns
import Derived.Test.YtcdbemdogkmahaaAcqRw
import Derived.Test.YtcdbemdogkmahaaAcqWS3
namespace Go.Proofs.Ytcdbemdogkmahaa.Ax
open Go Go.Acq Go.RowKit Go.Proofs
set_option linter.unusedVariables false
set_option linter.unusedSimpArgs false
set_option maxHeartbeats 8000000
set_option maxRecDepth 20000
theorem TWLFlowTurns.a24 : aggT Try.prog 24 4 = true := by kernel_rfl
theorem TWLFlowTurns.a28 : aggT Try.prog 28 3 = true := by kernel_rfl
theorem TWLFlowTurns.b2 : bytesT Try.prog 2 = some 8 := by kernel_rfl
theorem TWLFlowTurns.b28 : bytesT Try.prog 28 = some 24 := by kernel_rfl
theorem TWLFlowTurns.c17 : callable Try.prog 17 = true := by kernel_rfl
theorem TWLFlowTurns.c18 : callable Try.prog 18 = true := by kernel_rfl
theorem TWLFlowTurns.c27 : callable Try.prog 27 = true := by kernel_rfl
theorem TWLFlowTurns.c29 : callable Try.prog 29 = true := by kernel_rfl
theorem TWLFlowTurns.c32 : callable Try.prog 32 = true := by kernel_rfl
theorem TWLFlowTurns.c33 : callable Try.prog 33 = true := by kernel_rfl
theorem TWLFlowTurns.c34 : callable Try.prog 34 = true := by kernel_rfl
theorem TWLFlowTurns.c35 : callable Try.prog 35 = true := by kernel_rfl
theorem TWLFlowTurns.c36 : callable Try.prog 36 = true := by kernel_rfl
theorem TWLFlowTurns.c37 : callable Try.prog 37 = true := by kernel_rfl
theorem TWLFlowTurns.c65 : callable Try.prog 65 = true := by kernel_rfl
theorem TWLFlowTurns.f24_1 : fieldT Try.prog 24 1 = some 1 := by kernel_rfl
theorem TWLFlowTurns.f24_2 : fieldT Try.prog 24 2 = some 2 := by kernel_rfl
theorem TWLFlowTurns.f24_3 : fieldT Try.prog 24 3 = some 3 := by kernel_rfl
theorem TWLFlowTurns.f28_0 : fieldT Try.prog 28 0 = some 0 := by kernel_rfl
theorem TWLFlowTurns.f28_1 : fieldT Try.prog 28 1 = some 1 := by kernel_rfl
theorem TWLFlowTurns.f28_2 : fieldT Try.prog 28 2 = some 2 := by kernel_rfl
theorem TWLFlowTurns.l22 : sliceT Try.prog 22 = some 28 := by kernel_rfl
theorem TWLFlowTurns.l25 : sliceT Try.prog 25 = some 2 := by kernel_rfl
theorem TWLFlowTurns.l52 : sliceT Try.prog 52 = some 5 := by kernel_rfl
theorem TWLFlowTurns.l65 : sliceT Try.prog 65 = some 52 := by kernel_rfl
theorem TWLFlowTurns.n2 : sizeT Try.prog 2 = some 1 := by kernel_rfl
theorem TWLFlowTurns.n22 : sizeT Try.prog 22 = some 1 := by kernel_rfl
theorem TWLFlowTurns.n24 : sizeT Try.prog 24 = some 4 := by kernel_rfl
theorem TWLFlowTurns.n28 : sizeT Try.prog 28 = some 3 := by kernel_rfl
theorem TWLFlowTurns.n3 : sizeT Try.prog 3 = some 1 := by kernel_rfl
theorem TWLFlowTurns.n5 : sizeT Try.prog 5 = some 1 := by kernel_rfl
theorem TWLFlowTurns.n52 : sizeT Try.prog 52 = some 1 := by kernel_rfl
theorem TWLFlowTurns.s2 : scalT Try.prog 2 = true := by kernel_rfl
theorem TWLFlowTurns.s22 : scalT Try.prog 22 = true := by kernel_rfl
theorem TWLFlowTurns.s3 : scalT Try.prog 3 = true := by kernel_rfl
theorem TWLFlowTurns.s52 : scalT Try.prog 52 = true := by kernel_rfl
theorem TWLFlowTurns.z2 : zeroT Try.prog 2 = some (.int .i64 0) := by kernel_rfl
theorem TWLFlowTurns.z24 : zeroT Try.prog 24 = some (.agg #[.int .i64 0, .int .i64 0, .int .i64 0, .slice none 0 0]) := by kernel_rfl
theorem TWLFlowTurns.z28 : zeroT Try.prog 28 = some (.agg #[.int .i64 0, .int .i64 0, .int .i64 0]) := by kernel_rfl
theorem TWLFlowTurnsel22 : ElemT Try.prog 22 28 3 24 (.agg #[.int .i64 0, .int .i64 0, .int .i64 0]) := ⟨TWLFlowTurns.l22, TWLFlowTurns.n28, TWLFlowTurns.b28, TWLFlowTurns.z28, rfl⟩
/-- slices.Clone[[]acequia/api.Arc,acequia/api.Arc] -/
theorem w_slices_Clone_Arc {s0 : List Arc} {s0_b : Option Addr} {s0_n : Nat} {s0_c : Nat} (w : World) (h_s0 : RS w [] arcC 3 s0_b s0_n s0_c s0) {r0 : List Arc} (H : m_slices_Clone_Arc s0 = some r0) : Fnc Try.prog 65 #[.slice s0_b s0_n s0_c] w [] (fun v N => ∃ (ob_0 : Option Nat) (n_0 : Nat) (c_0 : Nat) (j_0 : List Value), v = .slice (sb ob_0) n_0 c_0 ∧ N = [(ob_0, .cells (arr arcC r0 j_0).toArray 28 (0, 0))] ∧ r0.length = n_0 ∧ n_0 ≤ c_0 ∧ j_0.length = (c_0 - n_0) * 3 ∧ (ob_0 = none → c_0 = 0)) := by
  unfold m_slices_Clone_Arc at H
  refine Fnc.enter (vs := [.slice s0_b s0_n s0_c]) Try.func65 rfl rfl (Inv.refl w) ?_
  refine T.seq ?_
  refine T.regionL (ll := [0]) rfl ?_
  refine TO.assign rfl rfl rfl rfl ?_
  refine TO.done ?_
  refine X.seq_normal ?_
  refine T.seq ?_
  refine T.seq ?_
  by_cases g1 : s0_b = none
  ·
    have hx : s0 = [] := List.eq_nil_of_length_eq_zero (by rw [h_s0.len, h_s0.ro.nil g1])
    have H : (some ([])) = some r0 := by
      simp only [hx] at H ⊢
      first | exact H | exact (gd_some H).2
    refine T.regionL (ll := [0, 1]) rfl ?_
    refine TO.move rfl rfl rfl rfl ?_
    refine TO.eqnil rfl rfl rfl rfl rfl TWLFlowTurns.l22 ?_
    refine TO.decB (t := 4) (b' := true) rfl (by rw [g1]; rfl) ?_
    refine TO.done ?_
    refine X.seq_normal ?_
    refine T.condT rfl rfl ?_
    refine T.seq ?_
    refine T.regionL (ll := [0]) rfl ?_
    refine TO.assign rfl rfl rfl rfl ?_
    refine TO.done ?_
    refine X.seq_normal ?_
    refine T.ret ?_
    refine X.then_ret ?_
    obtain rfl := ret1 H
    exact X.ret1 rfl rfl rfl rfl (Res.tmp rfl) (Pick.none Pick.nil) ⟨none, 0, 0, ([]), rfl, rfl, rfl, (Nat.le_refl _), (zeroJ 0 _), (fun _ => rfl)⟩
  ·
    refine T.regionL (ll := [0, 1]) rfl ?_
    refine TO.move rfl rfl rfl rfl ?_
    refine TO.eqnil rfl rfl rfl rfl rfl TWLFlowTurns.l22 ?_
    refine TO.decB (t := 4) (b' := false) rfl (Option.isNone_eq_false_iff.2 (Option.isSome_iff_ne_none.2 g1)) ?_
    refine TO.done ?_
    refine X.seq_normal ?_
    refine T.condF rfl rfl ?_
    refine T.skip ?_
    refine X.seq_normal ?_
    refine T.seq ?_
    obtain ⟨g4, H⟩ := gd_some H
    refine T.regionL (ll := [0, 1, 2, 3]) rfl ?_
    refine TO.buildNone rfl rfl rfl TWLFlowTurns.l22 TWLFlowTurns.n28 ?_; intro b2
    refine TO.move rfl rfl rfl rfl ?_
    refine TO.app (f := arcC) (s := 3) (xs := ([] : List Arc)) (ob := some b2) (j := ([])) (ys := s0) (fun _ => rfl) (fun _ => rfl) TWLFlowTurnsel22 g4 rfl rfl rfl rfl rfl (Take.head _ _) rfl (Nat.le_refl _) (zeroJ 0 _) someZ (fun wc hwc => (h_s0.mono hwc)) ?_; intro ob5 c6 j7 hc8 hj9 hz10
    refine TO.assign rfl rfl rfl rfl ?_
    refine TO.done ?_
    refine X.seq_normal ?_
    refine T.ret ?_
    obtain rfl := ret1 H
    exact X.ret1 rfl rfl rfl rfl (Res.tmp rfl) (Pick.cons (Take.head _ _) Pick.nil) ⟨ob5, (0 + s0_n), c6, j7, rfl, rfl, (lenApp0 h_s0.len), hc8, hj9, hz10⟩
/-- acequia/net.Copy -/
theorem w_net_Copy {n0 : Net} {n0_Arcs_b : Option Addr} {n0_Arcs_n : Nat} {n0_Arcs_c : Nat} (w : World) (h_n0_Arcs : RS w [] arcC 3 n0_Arcs_b n0_Arcs_n n0_Arcs_c n0.Arcs) {r0 : Net} (H : m_net_Copy n0 = some r0) : Fnc Try.prog 36 #[.agg #[.int .i64 n0.N, .int .i64 n0.S, .int .i64 n0.T, .slice n0_Arcs_b n0_Arcs_n n0_Arcs_c]] w [] (fun v N => ∃ (ob_0 : Option Nat) (n_0 : Nat) (c_0 : Nat) (j_0 : List Value), v = .agg #[.int .i64 r0.N, .int .i64 r0.S, .int .i64 r0.T, .slice (sb ob_0) n_0 c_0] ∧ N = [(ob_0, .cells (arr arcC r0.Arcs j_0).toArray 28 (0, 0))] ∧ r0.Arcs.length = n_0 ∧ n_0 ≤ c_0 ∧ j_0.length = (c_0 - n_0) * 3 ∧ (ob_0 = none → c_0 = 0)) := by
  unfold m_net_Copy at H
  refine Fnc.enter (vs := [.agg #[.int .i64 n0.N, .int .i64 n0.S, .int .i64 n0.T, .slice n0_Arcs_b n0_Arcs_n n0_Arcs_c]]) Try.func36 rfl rfl (Inv.refl w) ?_
  refine T.seq ?_
  refine T.regionL (ll := [0, 1]) rfl ?_
  refine TO.boxA rfl rfl rfl rfl ?_; intro b1
  refine TO.allocA rfl rfl rfl TWLFlowTurns.z24 ?_; intro b3
  refine TO.done ?_
  refine X.seq_normal ?_
  refine T.seq ?_
  obtain ⟨r5, e6, H⟩ := bd_some H
  refine T.regionL (ll := [0, 1, 2, 3, 4]) rfl ?_
  refine TO.fieldAddr0 rfl rfl rfl rfl TWLFlowTurns.f24_3 ?_
  refine TO.load1 rfl rfl rfl rfl TWLFlowTurns.s22 (List.Mem.tail _ (List.Mem.head _)) rfl ?_
  refine TO.callX TWLFlowTurns.c65 rfl rfl rfl rfl (fun wc hwc => w_slices_Clone_Arc (s0 := n0.Arcs) wc (h_n0_Arcs.mono hwc) e6) ?_
  rintro _ _ ⟨ob7, n8, c9, j10, rfl, rfl, hn11, hc12, hj13, hz14⟩
  refine TO.fieldAddr0 rfl rfl rfl rfl TWLFlowTurns.f24_3 ?_
  refine TO.store1n (cs' := [.int .i64 n0.N, .int .i64 n0.S, .int .i64 n0.T, .slice (sb ob7) n8 c9]) rfl rfl rfl rfl (Take.tail (Take.tail (Take.head _ _))) TWLFlowTurns.n22 rfl rfl rfl ?_
  refine TO.done ?_
  refine X.seq_normal ?_
  refine T.seq ?_
  refine T.regionL (ll := [0, 1]) rfl ?_
  refine TO.loadA rfl rfl rfl rfl TWLFlowTurns.a24 (List.Mem.head _) rfl ?_
  refine TO.storeA rfl rfl rfl rfl (Take.tail (Take.tail (Take.head _ _))) TWLFlowTurns.n24 rfl rfl rfl ?_
  refine TO.done ?_
  refine X.seq_normal ?_
  refine T.ret ?_
  obtain rfl := ret1 H
  exact X.ret1 rfl rfl rfl rfl (Res.cellA rfl TWLFlowTurns.a24 (List.Mem.head _) rfl) (Pick.cons (Take.tail (Take.tail (Take.head _ _))) Pick.nil) ⟨ob7, n8, c9, j10, rfl, rfl, hn11, hc12, hj13, hz14⟩
/-- acequia/net.Turn -/
theorem w_net_Turn {n0 : Net} {n0_Arcs_b : Option Addr} {n0_Arcs_n : Nat} {n0_Arcs_c : Nat} (w : World) (h_n0_Arcs : RS w [] arcC 3 n0_Arcs_b n0_Arcs_n n0_Arcs_c n0.Arcs) {r0 : Net} (H : m_net_Turn n0 = some r0) : Fnc Try.prog 37 #[.agg #[.int .i64 n0.N, .int .i64 n0.S, .int .i64 n0.T, .slice n0_Arcs_b n0_Arcs_n n0_Arcs_c]] w [] (fun v N => ∃ (ob_0 : Option Nat) (n_0 : Nat) (c_0 : Nat) (j_0 : List Value), v = .agg #[.int .i64 r0.N, .int .i64 r0.S, .int .i64 r0.T, .slice (sb ob_0) n_0 c_0] ∧ N = [(ob_0, .cells (arr arcC r0.Arcs j_0).toArray 28 (0, 0))] ∧ r0.Arcs.length = n_0 ∧ n_0 ≤ c_0 ∧ j_0.length = (c_0 - n_0) * 3 ∧ (ob_0 = none → c_0 = 0)) := by
  unfold m_net_Turn at H
  refine Fnc.enter (vs := [.agg #[.int .i64 n0.N, .int .i64 n0.S, .int .i64 n0.T, .slice n0_Arcs_b n0_Arcs_n n0_Arcs_c]]) Try.func37 rfl rfl (Inv.refl w) ?_
  refine T.seq ?_
  refine T.regionL (ll := [0, 1]) rfl ?_
  refine TO.boxA rfl rfl rfl rfl ?_; intro b1
  refine TO.allocA rfl rfl rfl TWLFlowTurns.z24 ?_; intro b3
  refine TO.done ?_
  refine X.seq_normal ?_
  refine T.seq ?_
  obtain ⟨r5, e6, H⟩ := bd_some H
  refine T.regionL (ll := [0, 1, 2, 3]) rfl ?_
  refine TO.loadA rfl rfl rfl rfl TWLFlowTurns.a24 (List.Mem.tail _ (List.Mem.head _)) rfl ?_
  refine TO.callX TWLFlowTurns.c36 rfl rfl rfl rfl (fun wc hwc => w_net_Copy (n0 := n0) wc (h_n0_Arcs.mono hwc) e6) ?_
  rintro _ _ ⟨ob7, n8, c9, j10, rfl, rfl, hn11, hc12, hj13, hz14⟩
  refine TO.allocA rfl rfl rfl TWLFlowTurns.z24 ?_; intro b16
  refine TO.storeA rfl rfl rfl rfl (Take.head _ _) TWLFlowTurns.n24 rfl rfl rfl ?_
  refine TO.done ?_
  refine X.seq_normal ?_
  refine T.seq ?_
  apply T.drawL [⟨[], false, [], relV _⟩, ⟨[0], false, [], relV _⟩, ⟨[], false, [], relV _⟩, ⟨[2], false, [], relV _⟩, ⟨[], false, [], relV _⟩, ⟨[1, 4], true, [], relN⟩] [8, 9, 10, 11, 12] 6 (HRk [[(some b16, .cells #[.int .i64 r5.N, .int .i64 r5.S, .int .i64 r5.T, .slice (sb ob7) n8 c9] 24 (0, 0))], [(some b16, .cells #[.int .i64 r5.N, .int .i64 n0.T, .int .i64 r5.T, .slice (sb ob7) n8 c9] 24 (0, 0))]]) [[], []] [(some b16, .cells #[.int .i64 r5.N, .int .i64 r5.S, .int .i64 r5.T, .slice (sb ob7) n8 c9] 24 (0, 0))] [(ob7, .cells (arr arcC r5.Arcs j10).toArray 28 (0, 0)), (some b3, .cells #[.int .i64 0, .int .i64 0, .int .i64 0, .slice none 0 0] 24 (0, 0)), (some b1, .cells #[.int .i64 n0.N, .int .i64 n0.S, .int .i64 n0.T, .slice n0_Arcs_b n0_Arcs_n n0_Arcs_c] 24 (0, 0))]
  · exact mixed
  · exact rfl
  · kernel_rfl
  · kernel_rfl
  · kernel_rfl
  · exact rfl
  · exact rfl
  · exact rfl
  · exact rfl
  · exact (by repeat (first | exact Pick.refl _ | exact Pick.nil | apply Pick.none | refine Pick.cons (by repeat (first | exact Take.head _ _ | apply Take.tail)) ?_))
  · refine ⟨?_, ?_, ?_, ?_, ?_, ?_, trivial⟩
    · rintro vs es Es Hx -
      refine TO.reenv (D := []) rfl ?_
      refine TO.fieldAddr0 rfl rfl rfl rfl TWLFlowTurns.f24_2 ?_
      refine TO.done ?_; exact X.obQ rfl ⟨rfl, rfl⟩ (Pick.refl _) rfl
    · rintro vs es Es Hx ⟨⟨h_0, e_0⟩, -⟩
      refine TO.reenv (D := [(8, vs 0)]) rfl ?_; rw [h_0]
      refine TO.load1 rfl rfl rfl rfl TWLFlowTurns.s3 (List.Mem.tail _ (List.Mem.tail _ (List.Mem.head _))) rfl ?_
      refine TO.done ?_; exact X.obQ rfl ⟨rfl, rfl⟩ (Pick.refl _) (by show [(8, vs 0)] = _; rw [h_0])
    · rintro vs es Es Hx -
      refine TO.reenv (D := []) rfl ?_
      refine TO.fieldAddr0 rfl rfl rfl rfl TWLFlowTurns.f24_1 ?_
      refine TO.done ?_; exact X.obQ rfl ⟨rfl, rfl⟩ (Pick.refl _) rfl
    · rintro vs es Es Hx ⟨⟨h_2, e_2⟩, -⟩
      refine TO.reenv (D := [(10, vs 2)]) rfl ?_; rw [h_2]
      refine TO.load1 rfl rfl rfl rfl TWLFlowTurns.s3 (List.Mem.tail _ (List.Mem.tail _ (List.Mem.head _))) rfl ?_
      refine TO.done ?_; exact X.obQ rfl ⟨rfl, rfl⟩ (Pick.refl _) (by show [(10, vs 2)] = _; rw [h_2])
    · rintro vs es Es Hx -
      refine TO.reenv (D := []) rfl ?_
      refine TO.fieldAddr0 rfl rfl rfl rfl TWLFlowTurns.f24_1 ?_
      refine TO.done ?_; exact X.obQ rfl ⟨rfl, rfl⟩ (Pick.refl _) rfl
    · rintro vs es Es Hx hb ⟨⟨h_1, e_1⟩, ⟨h_4, e_4⟩, -⟩ hHR
      obtain rfl : hb = [(some b16, .cells #[.int .i64 r5.N, .int .i64 r5.S, .int .i64 r5.T, .slice (sb ob7) n8 c9] 24 (0, 0))] := hHR
      refine TO.reenv (D := [(9, vs 1), (12, vs 4)]) rfl ?_; rw [h_1, h_4]
      refine TO.store1n (cs' := [.int .i64 r5.N, .int .i64 n0.T, .int .i64 r5.T, .slice (sb ob7) n8 c9]) rfl rfl rfl rfl (Take.head _ _) TWLFlowTurns.n3 rfl rfl rfl ?_
      refine TO.done ?_; exact X.obE (hb' := [(some b16, .cells #[.int .i64 r5.N, .int .i64 n0.T, .int .i64 r5.T, .slice (sb ob7) n8 c9] 24 (0, 0))]) rfl rfl rfl (by repeat (first | exact Pick.refl _ | exact Pick.nil | apply Pick.none | refine Pick.cons (by repeat (first | exact Take.head _ _ | apply Take.tail)) ?_)) (by show [(9, vs 1), (12, vs 4)] = _; rw [h_1, h_4])
  · rintro vs es hb ⟨⟨h_0, e_0⟩, ⟨h_1, e_1⟩, ⟨h_2, e_2⟩, ⟨h_3, e_3⟩, ⟨h_4, e_4⟩, e_5, -⟩ hHR
    obtain rfl : hb = [(some b16, .cells #[.int .i64 r5.N, .int .i64 n0.T, .int .i64 r5.T, .slice (sb ob7) n8 c9] 24 (0, 0))] := hHR
    refine TO.reenv (D := [(8, vs 0), (9, vs 1), (10, vs 2), (11, vs 3), (12, vs 4)]) rfl ?_
    refine TO.reheap (H := [(some b16, .cells #[.int .i64 r5.N, .int .i64 n0.T, .int .i64 r5.T, .slice (sb ob7) n8 c9] 24 (0, 0)), (ob7, .cells (arr arcC r5.Arcs j10).toArray 28 (0, 0)), (some b3, .cells #[.int .i64 0, .int .i64 0, .int .i64 0, .slice none 0 0] 24 (0, 0)), (some b1, .cells #[.int .i64 n0.N, .int .i64 n0.S, .int .i64 n0.T, .slice n0_Arcs_b n0_Arcs_n n0_Arcs_c] 24 (0, 0))]) (by show _ ++ (_ ++ (es 0 ++ (es 1 ++ (es 2 ++ (es 3 ++ (es 4 ++ (es 5 ++ ([])))))))) = _; rw [e_0, e_1, e_2, e_3, e_4, e_5]; rfl) ?_
    rw [h_0, h_1, h_2, h_3, h_4]
    clear h_4 h_3 h_2 h_1 h_0 e_0 e_1 e_2 e_3 e_4 e_5
    refine TO.fieldAddr0 rfl rfl rfl rfl TWLFlowTurns.f24_2 ?_
    refine TO.store1n (cs' := [.int .i64 r5.N, .int .i64 n0.T, .int .i64 n0.S, .slice (sb ob7) n8 c9]) rfl rfl rfl rfl (Take.head _ _) TWLFlowTurns.n3 rfl rfl rfl ?_
    refine TO.done ?_
    refine X.seq_normal ?_
    refine T.trim (AllF.cons (t := 1) rfl (AllF.cons (t := 2) rfl (AllF.cons (t := 3) rfl AllF.nil))) ?_
    refine T.seq ?_
    refine T.seq ?_
    refine T.regionL (ll := [0, 1, 2, 3]) rfl ?_
    refine TO.fieldAddr0 rfl rfl rfl rfl TWLFlowTurns.f24_3 ?_
    refine TO.load1 rfl rfl rfl rfl TWLFlowTurns.s22 (List.Mem.tail _ (List.Mem.tail _ (List.Mem.tail _ (List.Mem.head _)))) rfl ?_
    refine TO.lenX (xs := n0.Arcs) h_n0_Arcs.len rfl rfl rfl rfl rfl TWLFlowTurns.l22 ?_
    refine TO.move rfl rfl rfl rfl ?_
    refine TO.done ?_
    refine X.seq_normal ?_
    refine T.meetSE1 (fun (xs27 : List Arc) => m_net_Turn_j2 n0 r5 xs27 = some r0 ∧ xs27.length = n8) (fun (xs27 : List Arc) => [(2, .pointer (some ⟨b3, 0, none⟩)), (3, .pointer (some ⟨b16, 0, none⟩))]) (fun (xs27 : List Arc) => [(some b3, .cells #[.int .i64 0, .int .i64 0, .int .i64 0, .slice none 0 0] 24 (0, 0)), (some b16, .cells #[.int .i64 r5.N, .int .i64 n0.T, .int .i64 n0.S, .slice (sb ob7) n8 c9] 24 (0, 0)), (ob7, .cells (arr arcC xs27 j10).toArray 28 (0, 0))]) ?_ ?_
    ·
      refine T.block ?_
      obtain ⟨o_1, e_1, K_1⟩ := bd_some H
      refine T.loopE3 (fun (m_1 : Nat) (xs18 : List Arc) (x20 : Int) => loopM (fun s => m_net_Turn_s1 n0 s.1 s.2) m_1 (xs18, x20) = some o_1 ∧ xs18.length = n8) (fun (m_1 : Nat) (xs18 : List Arc) (x20 : Int) => [(2, .pointer (some ⟨b3, 0, none⟩)), (3, .pointer (some ⟨b16, 0, none⟩)), (15, .slice n0_Arcs_b n0_Arcs_n n0_Arcs_c), (16, .int .i64 (n0.Arcs.length : Int)), (17, .int .i64 x20)]) (fun (m_1 : Nat) (xs18 : List Arc) (x20 : Int) => [(some b3, .cells #[.int .i64 0, .int .i64 0, .int .i64 0, .slice none 0 0] 24 (0, 0)), (some b16, .cells #[.int .i64 r5.N, .int .i64 n0.T, .int .i64 n0.S, .slice (sb ob7) n8 c9] 24 (0, 0)), (ob7, .cells (arr arcC xs18 j10).toArray 28 (0, 0))]) (fun (m_1 : Nat) (xs18 : List Arc) (x20 : Int) => m_1) FUEL r5.Arcs 0 ⟨e_1, hn11⟩ (AllF.cons rfl (AllF.cons rfl (AllF.cons rfl (AllF.cons rfl (AllF.cons rfl AllF.nil))))) (Pick.cons (Take.tail (Take.tail (Take.head _ _))) (Pick.cons (Take.head _ _) (Pick.cons (Take.head _ _) Pick.nil))) ?_
      rintro m_1 xs18 x20 ⟨H, hn19⟩
      obtain ⟨n_1, r_1, rfl, H, C_1⟩ := loopM_some H
      have H : m_net_Turn_s1 n0 xs18 x20 = some r_1 := H
      unfold m_net_Turn_s1 at H
      refine T.seq ?_
      refine T.regionL (ll := [0]) rfl ?_
      refine TO.bin rfl rfl rfl rfl rfl rfl ?_
      refine TO.done ?_
      refine X.seq_normal ?_
      refine T.seq ?_
      rcases ite_some H with ⟨g21, H⟩ | ⟨g21, H⟩
      ·
        refine T.condPT rfl g21 ?_
        refine T.skip ?_
        refine X.seq_normal ?_
        refine T.seq ?_
        refine T.block ?_
        refine T.seq ?_
        obtain ⟨g22, H⟩ := gd_some H
        refine T.regionL (ll := [0, 1, 2, 3, 4, 5]) rfl ?_
        refine TO.move rfl rfl rfl rfl ?_
        refine TO.ixR h_n0_Arcs g22 rfl rfl rfl rfl rfl TWLFlowTurns.l22 TWLFlowTurns.n28 ?_
        refine TO.ldSR (cs := [.int .i64 ((n0.Arcs.getD x20.toNat default).fr), .int .i64 ((n0.Arcs.getD x20.toNat default).to), .int .i64 ((n0.Arcs.getD x20.toNat default).cap)]) default h_n0_Arcs g22 rfl rfl rfl rfl rfl TWLFlowTurns.a28 ?_
        refine TO.allocA rfl rfl rfl TWLFlowTurns.z28 ?_; intro b23
        refine TO.assign rfl rfl rfl rfl ?_
        refine TO.storeA rfl rfl rfl rfl (Take.head _ _) TWLFlowTurns.n28 rfl rfl rfl ?_
        refine TO.done ?_
        refine X.seq_normal ?_
        obtain ⟨g25, H⟩ := gd_some H
        refine T.regionL (ll := [0, 1, 2, 3, 4, 5, 6, 7, 8, 9, 10, 11]) rfl ?_
        refine TO.fieldAddr0 rfl rfl rfl rfl TWLFlowTurns.f24_3 ?_
        refine TO.load1 rfl rfl rfl rfl TWLFlowTurns.s22 (List.Mem.tail _ (List.Mem.tail _ (List.Mem.head _))) rfl ?_
        refine TO.move rfl rfl rfl rfl ?_
        refine TO.fieldAddr0 rfl rfl rfl rfl TWLFlowTurns.f28_1 ?_
        refine TO.load1 rfl rfl rfl rfl TWLFlowTurns.s3 (List.Mem.head _) rfl ?_
        refine TO.fieldAddr0 rfl rfl rfl rfl TWLFlowTurns.f28_0 ?_
        refine TO.load1 rfl rfl rfl rfl TWLFlowTurns.s3 (List.Mem.head _) rfl ?_
        refine TO.fieldAddr0 rfl rfl rfl rfl TWLFlowTurns.f28_2 ?_
        refine TO.load1 rfl rfl rfl rfl TWLFlowTurns.s2 (List.Mem.head _) rfl ?_
        refine TO.buildS (t := 28) [.int .i64 0, .int .i64 0, .int .i64 0] [0, 1, 2] rfl rfl rfl rfl (by simp only [setAll, setCells, Value.cells, List.toList_toArray, List.getD_cons_zero, List.getD_cons_succ, List.set_cons_zero, List.set_cons_succ]; rfl) (by kernel_rfl) ?_
        refine TO.ixV hz14 hc12 hn19 g25 rfl rfl rfl rfl rfl TWLFlowTurns.l22 TWLFlowTurns.n28 ?_
        refine TO.stSV (v := (Arc.mk ((n0.Arcs.getD x20.toNat default).to) ((n0.Arcs.getD x20.toNat default).fr) ((n0.Arcs.getD x20.toNat default).cap))) (f := arcC) (cs := [.int .i64 ((n0.Arcs.getD x20.toNat default).to), .int .i64 ((n0.Arcs.getD x20.toNat default).fr), .int .i64 ((n0.Arcs.getD x20.toNat default).cap)]) (fun _ => rfl) (fun _ => rfl) hz14 hc12 hn19 g25 rfl rfl rfl rfl rfl (Take.tail (Take.tail (Take.tail (Take.head _ _)))) TWLFlowTurns.n28 ?_
        refine TO.done ?_
        refine X.block_normal ?_
        refine X.seq_normal ?_
        refine T.trim (AllF.cons (t := 2) rfl (AllF.cons (t := 3) rfl (AllF.cons (t := 15) rfl (AllF.cons (t := 16) rfl (AllF.cons (t := 17) rfl AllF.nil))))) ?_
        obtain ⟨g26, H⟩ := gd_some H
        refine T.regionL (ll := [0, 1]) rfl ?_
        refine TO.addG g26 rfl rfl rfl rfl rfl ?_
        refine TO.move rfl rfl rfl rfl ?_
        refine TO.done ?_
        have H := loop_next H C_1
        exact X.againE3 n_1 (xs18.set x20.toNat (Arc.mk ((n0.Arcs.getD x20.toNat default).to) ((n0.Arcs.getD x20.toNat default).fr) ((n0.Arcs.getD x20.toNat default).cap))) (x20 + 1) ⟨H, (List.length_set.trans hn19)⟩ (Nat.lt_succ_self _) (AllF.cons rfl (AllF.cons rfl (AllF.cons rfl (AllF.cons rfl (AllF.cons rfl AllF.nil))))) (Pick.cons (Take.tail (Take.tail (Take.head _ _))) (Pick.cons (Take.tail (Take.tail (Take.head _ _))) (Pick.cons (Take.head _ _) Pick.nil)))
      ·
        refine T.condPF rfl g21 ?_
        refine T.exit ?_
        refine X.then_exit ?_
        have H := loop_exitE H C_1 ▸ K_1
        refine X.then_exit ?_
        refine X.block_here ?_
        exact X.metE1 xs18 ⟨H, hn19⟩ (AllF.cons rfl (AllF.cons rfl AllF.nil)) (Pick.cons (Take.head _ _) (Pick.cons (Take.head _ _) (Pick.cons (Take.head _ _) Pick.nil)))
    · rintro xs27 ⟨H, hn28⟩
      unfold m_net_Turn_j2 at H
      refine T.seq ?_
      refine T.regionL (ll := [0, 1]) rfl ?_
      refine TO.loadA rfl rfl rfl rfl TWLFlowTurns.a24 (List.Mem.tail _ (List.Mem.head _)) rfl ?_
      refine TO.storeA rfl rfl rfl rfl (Take.head _ _) TWLFlowTurns.n24 rfl rfl rfl ?_
      refine TO.done ?_
      refine X.seq_normal ?_
      refine T.ret ?_
      obtain rfl := ret1 H
      exact X.ret1 rfl rfl rfl rfl (Res.cellA rfl TWLFlowTurns.a24 (List.Mem.head _) rfl) (Pick.cons (Take.tail (Take.tail (Take.head _ _))) Pick.nil) ⟨ob7, n8, c9, j10, rfl, rfl, hn28, hc12, hj13, hz14⟩
/-- acequia/acequialaw03.FlowTurns -/
theorem w_acequialaw03_FlowTurns {n0 : Net} {l1 : List Int} {moves2 : List (List Int)} {n0_Arcs_b : Option Addr} {n0_Arcs_n : Nat} {n0_Arcs_c : Nat} {l1_b : Option Addr} {l1_n : Nat} {l1_c : Nat} {moves2_b : Option Addr} {moves2_n : Nat} {moves2_c : Nat} {moves2_m : List SM} (w : World) (h_n0_Arcs : RS w [] arcC 3 n0_Arcs_b n0_Arcs_n n0_Arcs_c n0.Arcs) (h_l1 : RS w [] (intC .i64) 1 l1_b l1_n l1_c l1) (h_moves2 : RW w [] (intC .u8) 1 moves2_b moves2_n moves2_c moves2_m moves2) {r0 : Bool} (H : m_acequialaw03_FlowTurns n0 l1 moves2 = some r0) : Fnc Try.prog 10 #[.agg #[.int .i64 n0.N, .int .i64 n0.S, .int .i64 n0.T, .slice n0_Arcs_b n0_Arcs_n n0_Arcs_c], .slice l1_b l1_n l1_c, .slice moves2_b moves2_n moves2_c] w [] (fun v N => v = .bool r0 ∧ N = []) := by
  unfold m_acequialaw03_FlowTurns at H
  refine Fnc.enter (vs := [.agg #[.int .i64 n0.N, .int .i64 n0.S, .int .i64 n0.T, .slice n0_Arcs_b n0_Arcs_n n0_Arcs_c], .slice l1_b l1_n l1_c, .slice moves2_b moves2_n moves2_c]) Try.func10 rfl rfl (Inv.refl w) ?_
  refine T.seq ?_
  refine T.regionL (ll := [0, 1]) rfl ?_
  refine TO.boxA rfl rfl rfl rfl ?_; intro b1
  refine TO.assign rfl rfl rfl rfl ?_
  refine TO.done ?_
  refine X.seq_normal ?_
  refine T.seq ?_
  obtain ⟨r3, e4, H⟩ := bd_some H
  refine T.regionL (ll := [0, 1, 2]) rfl ?_
  refine TO.loadA rfl rfl rfl rfl TWLFlowTurns.a24 (List.Mem.head _) rfl ?_
  refine TO.callX TWLFlowTurns.c17 rfl rfl rfl rfl (fun wc hwc => w_acequialow_Some (n0 := n0) (verts1 := 40) (arcs2 := 80) wc (h_n0_Arcs.mono hwc) e4) ?_
  rintro _ _ ⟨ob5, n6, c7, j8, rfl, rfl, hn9, hc10, hj11, hz12⟩
  refine TO.storeA rfl rfl rfl rfl (Take.tail (Take.head _ _)) TWLFlowTurns.n24 rfl rfl rfl ?_
  refine TO.done ?_
  refine X.seq_normal ?_
  refine T.seq ?_
  obtain ⟨r14, e15, H⟩ := bd_some H
  refine T.regionL (ll := [0, 1, 2, 3]) rfl ?_
  refine TO.loadA rfl rfl rfl rfl TWLFlowTurns.a24 (List.Mem.head _) rfl ?_
  refine TO.callX TWLFlowTurns.c37 rfl rfl rfl rfl (fun wc hwc => w_net_Turn (n0 := r3) wc (hwc.rs (f := arcC) (s := 3) (xs := r3.Arcs) (j := j8) (fun _ => rfl) (List.Mem.tail _ (List.Mem.head _)) hn9 hc10 hz12) e15) ?_
  rintro _ _ ⟨ob16, n17, c18, j19, rfl, rfl, hn20, hc21, hj22, hz23⟩
  refine TO.allocA rfl rfl rfl TWLFlowTurns.z24 ?_; intro b25
  refine TO.storeA rfl rfl rfl rfl (Take.head _ _) TWLFlowTurns.n24 rfl rfl rfl ?_
  refine TO.done ?_
  refine X.seq_normal ?_
  refine T.seq ?_
  obtain ⟨r27, e28, H⟩ := bd_some H
  refine T.regionL (ll := [0, 1, 2, 3]) rfl ?_
  refine TO.loadA rfl rfl rfl rfl TWLFlowTurns.a24 (List.Mem.tail _ (List.Mem.tail _ (List.Mem.head _))) rfl ?_
  refine TO.move rfl rfl rfl rfl ?_
  refine TO.callX TWLFlowTurns.c18 rfl rfl rfl rfl (fun wc hwc => w_acequialow_Within (n0 := r3) (l1 := l1) wc (hwc.rs (f := arcC) (s := 3) (xs := r3.Arcs) (j := j8) (fun _ => rfl) (List.Mem.tail _ (List.Mem.tail _ (List.Mem.tail _ (List.Mem.head _)))) hn9 hc10 hz12) (h_l1.mono hwc) e28) ?_
  rintro _ _ ⟨ob29, n30, c31, j32, rfl, rfl, hn33, hc34, hj35, hz36⟩
  refine TO.assign rfl rfl rfl rfl ?_
  refine TO.done ?_
  refine X.seq_normal ?_
  refine T.trim (AllF.cons (t := 2) rfl (AllF.cons (t := 3) rfl (AllF.cons (t := 7) rfl (AllF.cons (t := 8) rfl AllF.nil)))) ?_
  refine T.seq ?_
  obtain ⟨⟨r38, r39⟩, e40, H⟩ := bd_some H
  refine T.regionL (ll := [0, 1, 2, 3, 4, 5, 6, 7]) rfl ?_
  refine TO.loadA rfl rfl rfl rfl TWLFlowTurns.a24 (List.Mem.tail _ (List.Mem.tail _ (List.Mem.tail _ (List.Mem.head _)))) rfl ?_
  refine TO.move rfl rfl rfl rfl ?_
  refine TO.callX TWLFlowTurns.c27 rfl rfl rfl rfl (fun wc hwc => w_flow_Excess (n0 := r3) (f1 := r27) wc (hwc.rs (f := arcC) (s := 3) (xs := r3.Arcs) (j := j8) (fun _ => rfl) (List.Mem.tail _ (List.Mem.tail _ (List.Mem.tail _ (List.Mem.tail _ (List.Mem.head _))))) hn9 hc10 hz12) (hwc.rs (f := (intC .i64)) (s := 1) (xs := r27) (j := j32) (fun _ => rfl) (List.Mem.head _) hn33 hc34 hz36) e40) ?_
  rintro _ _ ⟨ob41, n42, c43, j44, rfl, rfl, hn45, hc46, hj47, hz48⟩
  refine TO.move rfl rfl rfl rfl ?_
  refine TO.extract rfl rfl rfl rfl rfl ?_
  refine TO.extract rfl rfl rfl rfl rfl ?_
  refine TO.assign rfl rfl rfl rfl ?_
  refine TO.assign rfl rfl rfl rfl ?_
  refine TO.done ?_
  refine X.seq_normal ?_
  refine T.seq ?_
  obtain ⟨⟨r50, r51⟩, e52, H⟩ := bd_some H
  refine T.regionL (ll := [0, 1, 2, 3, 4, 5, 6, 7]) rfl ?_
  refine TO.loadA rfl rfl rfl rfl TWLFlowTurns.a24 (List.Mem.tail _ (List.Mem.tail _ (List.Mem.head _))) rfl ?_
  refine TO.move rfl rfl rfl rfl ?_
  refine TO.callX TWLFlowTurns.c27 rfl rfl rfl rfl (fun wc hwc => w_flow_Excess (n0 := r14) (f1 := r27) wc (hwc.rs (f := arcC) (s := 3) (xs := r14.Arcs) (j := j19) (fun _ => rfl) (List.Mem.tail _ (List.Mem.tail _ (List.Mem.tail _ (List.Mem.head _)))) hn20 hc21 hz23) (hwc.rs (f := (intC .i64)) (s := 1) (xs := r27) (j := j32) (fun _ => rfl) (List.Mem.tail _ (List.Mem.head _)) hn33 hc34 hz36) e52) ?_
  rintro _ _ ⟨ob53, n54, c55, j56, rfl, rfl, hn57, hc58, hj59, hz60⟩
  refine TO.move rfl rfl rfl rfl ?_
  refine TO.extract rfl rfl rfl rfl rfl ?_
  refine TO.extract rfl rfl rfl rfl rfl ?_
  refine TO.assign rfl rfl rfl rfl ?_
  refine TO.assign rfl rfl rfl rfl ?_
  refine TO.done ?_
  refine X.seq_normal ?_
  refine T.trim (AllF.cons (t := 2) rfl (AllF.cons (t := 3) rfl (AllF.cons (t := 7) rfl (AllF.cons (t := 9) rfl (AllF.cons (t := 10) rfl (AllF.cons (t := 11) rfl (AllF.cons (t := 12) rfl AllF.nil))))))) ?_
  refine T.seq ?_
  refine T.seq ?_
  rcases ite_some H with ⟨g62, H⟩ | ⟨g62, H⟩
  ·
    refine T.regionL (ll := [0, 1, 2, 3, 4, 5, 6, 7, 8, 9, 10, 11, 12]) rfl ?_
    refine TO.move rfl rfl rfl rfl ?_
    refine TO.bin rfl rfl rfl rfl rfl rfl ?_
    refine TO.move rfl rfl rfl rfl ?_
    refine TO.decB (t := 47) (b' := true) rfl (decide_eq_true g62) ?_
    refine TO.shut rfl rfl rfl rfl ?_
    refine TO.shut rfl rfl rfl rfl ?_
    refine TO.pickT rfl rfl rfl rfl rfl ?_
    refine TO.move rfl rfl rfl rfl ?_
    refine TO.shut rfl rfl rfl rfl ?_
    refine TO.shut rfl rfl rfl rfl ?_
    refine TO.shut rfl rfl rfl rfl ?_
    refine TO.shut rfl rfl rfl rfl ?_
    refine TO.shut rfl rfl rfl rfl ?_
    refine TO.pickT rfl rfl rfl rfl rfl ?_
    refine TO.done ?_
    refine X.seq_normal ?_
    refine T.trim (AllF.cons (t := 2) rfl (AllF.cons (t := 3) rfl (AllF.cons (t := 7) rfl (AllF.cons (t := 9) rfl (AllF.cons (t := 11) rfl (AllF.cons (t := 57) rfl AllF.nil)))))) ?_
    refine T.condT rfl rfl ?_
    refine T.seq ?_
    refine T.regionL (ll := [0]) rfl ?_
    refine TO.assign rfl rfl rfl rfl ?_
    refine TO.done ?_
    refine X.seq_normal ?_
    refine T.ret ?_
    refine X.then_ret ?_
    obtain rfl := ret1 H
    exact X.ret1 rfl rfl rfl rfl (Res.tmp rfl) Pick.nil ⟨rfl, rfl⟩
  ·
    rcases ite_some H with ⟨g63, H⟩ | ⟨g63, H⟩
    ·
      refine T.regionL (ll := [0, 1, 2, 3, 4, 5, 6, 7, 8, 9, 10, 11, 12]) rfl ?_
      refine TO.move rfl rfl rfl rfl ?_
      refine TO.bin rfl rfl rfl rfl rfl rfl ?_
      refine TO.move rfl rfl rfl rfl ?_
      refine TO.decB (t := 47) (b' := false) rfl (decide_eq_false g62) ?_
      refine TO.move rfl rfl rfl rfl ?_
      refine TO.bin rfl rfl rfl rfl rfl rfl ?_
      refine TO.pickF rfl rfl rfl rfl rfl ?_
      refine TO.move rfl rfl rfl rfl ?_
      refine TO.decB (t := 51) (b' := true) rfl (decide_eq_true g63) ?_
      refine TO.shut rfl rfl rfl rfl ?_
      refine TO.shut rfl rfl rfl rfl ?_
      refine TO.shut rfl rfl rfl rfl ?_
      refine TO.shut rfl rfl rfl rfl ?_
      refine TO.shut rfl rfl rfl rfl ?_
      refine TO.pickT rfl rfl rfl rfl rfl ?_
      refine TO.done ?_
      refine X.seq_normal ?_
      refine T.trim (AllF.cons (t := 2) rfl (AllF.cons (t := 3) rfl (AllF.cons (t := 7) rfl (AllF.cons (t := 9) rfl (AllF.cons (t := 11) rfl (AllF.cons (t := 57) rfl AllF.nil)))))) ?_
      refine T.condT rfl rfl ?_
      refine T.seq ?_
      refine T.regionL (ll := [0]) rfl ?_
      refine TO.assign rfl rfl rfl rfl ?_
      refine TO.done ?_
      refine X.seq_normal ?_
      refine T.ret ?_
      refine X.then_ret ?_
      obtain rfl := ret1 H
      exact X.ret1 rfl rfl rfl rfl (Res.tmp rfl) Pick.nil ⟨rfl, rfl⟩
    ·
      refine T.regionL (ll := [0, 1, 2, 3, 4, 5, 6, 7, 8, 9, 10, 11, 12]) rfl ?_
      refine TO.move rfl rfl rfl rfl ?_
      refine TO.bin rfl rfl rfl rfl rfl rfl ?_
      refine TO.move rfl rfl rfl rfl ?_
      refine TO.decB (t := 47) (b' := false) rfl (decide_eq_false g62) ?_
      refine TO.move rfl rfl rfl rfl ?_
      refine TO.bin rfl rfl rfl rfl rfl rfl ?_
      refine TO.pickF rfl rfl rfl rfl rfl ?_
      refine TO.move rfl rfl rfl rfl ?_
      refine TO.decB (t := 51) (b' := false) rfl (decide_eq_false g63) ?_
      refine TO.move rfl rfl rfl rfl ?_
      refine TO.lenX (xs := r38) hn45 rfl rfl rfl rfl rfl TWLFlowTurns.l25 ?_
      refine TO.move rfl rfl rfl rfl ?_
      refine TO.lenX (xs := r50) hn57 rfl rfl rfl rfl rfl TWLFlowTurns.l25 ?_
      refine TO.bin rfl rfl rfl rfl rfl rfl ?_
      refine TO.pickF rfl rfl rfl rfl rfl ?_
      refine TO.done ?_
      refine X.seq_normal ?_
      refine T.trim (AllF.cons (t := 2) rfl (AllF.cons (t := 3) rfl (AllF.cons (t := 7) rfl (AllF.cons (t := 9) rfl (AllF.cons (t := 11) rfl (AllF.cons (t := 57) rfl AllF.nil)))))) ?_
      rcases ite_some H with ⟨g64, H⟩ | ⟨g64, H⟩
      ·
        refine T.condPT rfl g64 ?_
        refine T.seq ?_
        refine T.regionL (ll := [0]) rfl ?_
        refine TO.assign rfl rfl rfl rfl ?_
        refine TO.done ?_
        refine X.seq_normal ?_
        refine T.ret ?_
        refine X.then_ret ?_
        obtain rfl := ret1 H
        exact X.ret1 rfl rfl rfl rfl (Res.tmp rfl) Pick.nil ⟨rfl, rfl⟩
      ·
        refine T.condPF rfl g64 ?_
        refine T.skip ?_
        refine X.seq_normal ?_
        refine T.seq ?_
        refine T.seq ?_
        refine T.regionL (ll := [0, 1, 2]) rfl ?_
        refine TO.move rfl rfl rfl rfl ?_
        refine TO.lenX (xs := r38) hn45 rfl rfl rfl rfl rfl TWLFlowTurns.l25 ?_
        refine TO.move rfl rfl rfl rfl ?_
        refine TO.done ?_
        refine X.seq_normal ?_
        refine T.meetSE1 (fun (u72 : Unit) => m_acequialaw03_FlowTurns_j2 moves2 r3 r14 = some r0) (fun (u72 : Unit) => [(2, .slice moves2_b moves2_n moves2_c), (3, .pointer (some ⟨b1, 0, none⟩)), (7, .pointer (some ⟨b25, 0, none⟩))]) (fun (u72 : Unit) => [(some b1, .cells #[.int .i64 r3.N, .int .i64 r3.S, .int .i64 r3.T, .slice (sb ob5) n6 c7] 24 (0, 0)), (ob5, .cells (arr arcC r3.Arcs j8).toArray 28 (0, 0)), (some b25, .cells #[.int .i64 r14.N, .int .i64 r14.S, .int .i64 r14.T, .slice (sb ob16) n17 c18] 24 (0, 0)), (ob16, .cells (arr arcC r14.Arcs j19).toArray 28 (0, 0))]) ?_ ?_
        ·
          refine T.block ?_
          obtain ⟨o_1, e_1, K_1⟩ := bd_some H
          refine T.loopE2 (fun (m_1 : Nat) (x65 : Int) => loopM (fun s => m_acequialaw03_FlowTurns_s1 r38 r50 s) m_1 x65 = some o_1) (fun (m_1 : Nat) (x65 : Int) => [(2, .slice moves2_b moves2_n moves2_c), (3, .pointer (some ⟨b1, 0, none⟩)), (7, .pointer (some ⟨b25, 0, none⟩)), (9, .slice (sb ob41) n42 c43), (11, .slice (sb ob53) n54 c55), (59, .int .i64 (r38.length : Int)), (60, .int .i64 x65)]) (fun (m_1 : Nat) (x65 : Int) => [(some b1, .cells #[.int .i64 r3.N, .int .i64 r3.S, .int .i64 r3.T, .slice (sb ob5) n6 c7] 24 (0, 0)), (ob5, .cells (arr arcC r3.Arcs j8).toArray 28 (0, 0)), (some b25, .cells #[.int .i64 r14.N, .int .i64 r14.S, .int .i64 r14.T, .slice (sb ob16) n17 c18] 24 (0, 0)), (ob16, .cells (arr arcC r14.Arcs j19).toArray 28 (0, 0)), (ob41, .cells (arr (intC .i64) r38 j44).toArray 2 (0, 0)), (ob53, .cells (arr (intC .i64) r50 j56).toArray 2 (0, 0))]) (fun (m_1 : Nat) (x65 : Int) => m_1) FUEL 0 e_1 (AllF.cons rfl (AllF.cons rfl (AllF.cons rfl (AllF.cons rfl (AllF.cons rfl (AllF.cons rfl (AllF.cons rfl AllF.nil))))))) (Pick.cons (Take.tail (Take.tail (Take.tail (Take.tail (Take.tail (Take.head _ _)))))) (Pick.cons (Take.tail (Take.tail (Take.tail (Take.tail (Take.tail (Take.head _ _)))))) (Pick.cons (Take.tail (Take.tail (Take.tail (Take.head _ _)))) (Pick.cons (Take.tail (Take.tail (Take.tail (Take.head _ _)))) (Pick.cons (Take.tail (Take.head _ _)) (Pick.cons (Take.head _ _) Pick.nil)))))) ?_
          rintro m_1 x65 H
          obtain ⟨n_1, r_1, rfl, H, C_1⟩ := loopM_some H
          have H : m_acequialaw03_FlowTurns_s1 r38 r50 x65 = some r_1 := H
          unfold m_acequialaw03_FlowTurns_s1 at H
          refine T.seq ?_
          refine T.regionL (ll := [0]) rfl ?_
          refine TO.bin rfl rfl rfl rfl rfl rfl ?_
          refine TO.done ?_
          refine X.seq_normal ?_
          refine T.seq ?_
          rcases ite_some H with ⟨g66, H⟩ | ⟨g66, H⟩
          ·
            refine T.condPT rfl g66 ?_
            refine T.skip ?_
            refine X.seq_normal ?_
            refine T.seq ?_
            refine T.block ?_
            refine T.seq ?_
            refine T.regionL (ll := [0, 1]) rfl ?_
            refine TO.move rfl rfl rfl rfl ?_
            refine TO.assign rfl rfl rfl rfl ?_
            refine TO.done ?_
            refine X.seq_normal ?_
            refine T.seq ?_
            obtain ⟨g67, H⟩ := gd_some H
            obtain ⟨g68, H⟩ := gd_some H
            obtain ⟨g69, H⟩ := gd_some H
            apply T.drawQT [(63, _), (64, _), (65, _), (66, _), (67, _), (68, _), (69, _), (70, _), (71, _)]
            · exact mixed
            · kernel_rfl
            · kernel_rfl
            · exact rfl
            · exact rfl
            · refine ⟨?_, ?_, ?_, ?_, ?_, ?_, ?_, ?_, ?_, trivial⟩
              · intro Es
                refine TO.move rfl rfl rfl rfl ?_
                exact TO.done (X.ob rfl (Pick.refl _))
              · intro Es
                refine TO.move rfl rfl rfl rfl ?_
                exact TO.done (X.ob rfl (Pick.refl _))
              · intro Es
                refine TO.ixV hz48 hc46 hn45 g67 rfl rfl rfl rfl rfl TWLFlowTurns.l25 TWLFlowTurns.n2 ?_
                exact TO.done (X.ob rfl (Pick.refl _))
              · intro Es
                refine TO.ldIV hz48 hc46 hn45 g67 rfl rfl rfl rfl TWLFlowTurns.s2 (List.Mem.tail _ (List.Mem.tail _ (List.Mem.tail _ (List.Mem.tail _ (List.Mem.head _))))) ?_
                exact TO.done (X.ob rfl (Pick.refl _))
              · intro Es
                refine TO.move rfl rfl rfl rfl ?_
                exact TO.done (X.ob rfl (Pick.refl _))
              · intro Es
                refine TO.move rfl rfl rfl rfl ?_
                exact TO.done (X.ob rfl (Pick.refl _))
              · intro Es
                refine TO.ixV hz60 hc58 hn57 g68 rfl rfl rfl rfl rfl TWLFlowTurns.l25 TWLFlowTurns.n2 ?_
                exact TO.done (X.ob rfl (Pick.refl _))
              · intro Es
                refine TO.ldIV hz60 hc58 hn57 g68 rfl rfl rfl rfl TWLFlowTurns.s2 (List.Mem.tail _ (List.Mem.tail _ (List.Mem.tail _ (List.Mem.tail _ (List.Mem.tail _ (List.Mem.head _)))))) ?_
                exact TO.done (X.ob rfl (Pick.refl _))
              · intro Es
                refine TO.negG g69 rfl rfl rfl rfl ?_
                exact TO.done (X.ob rfl (Pick.refl _))
            refine TO.bin rfl rfl rfl rfl rfl rfl ?_
            refine TO.done ?_
            refine X.seq_normal ?_
            refine T.trim (AllF.cons (t := 2) rfl (AllF.cons (t := 3) rfl (AllF.cons (t := 7) rfl (AllF.cons (t := 9) rfl (AllF.cons (t := 11) rfl (AllF.cons (t := 59) rfl (AllF.cons (t := 60) rfl (AllF.cons (t := 72) rfl AllF.nil)))))))) ?_
            rcases ite_some H with ⟨g70, H⟩ | ⟨g70, H⟩
            ·
              refine T.condPT rfl g70 ?_
              refine T.seq ?_
              refine T.regionL (ll := [0]) rfl ?_
              refine TO.assign rfl rfl rfl rfl ?_
              refine TO.done ?_
              refine X.seq_normal ?_
              refine T.trim (AllF.cons (t := 6) rfl AllF.nil) ?_
              refine T.ret ?_
              refine X.block_ret ?_
              refine X.then_ret ?_
              have H := loop_exitE H C_1 ▸ K_1
              refine X.then_ret ?_
              refine X.block_ret ?_
              refine X.then_ret ?_
              obtain rfl := ret1 H
              exact X.ret1 rfl rfl rfl rfl (Res.tmp rfl) Pick.nil ⟨rfl, rfl⟩
            ·
              refine T.condPF rfl g70 ?_
              refine T.skip ?_
              refine X.block_normal ?_
              refine X.seq_normal ?_
              obtain ⟨g71, H⟩ := gd_some H
              refine T.regionL (ll := [0, 1]) rfl ?_
              refine TO.addG g71 rfl rfl rfl rfl rfl ?_
              refine TO.move rfl rfl rfl rfl ?_
              refine TO.done ?_
              have H := loop_next H C_1
              exact X.againE2 n_1 (x65 + 1) H (Nat.lt_succ_self _) (AllF.cons rfl (AllF.cons rfl (AllF.cons rfl (AllF.cons rfl (AllF.cons rfl (AllF.cons rfl (AllF.cons rfl AllF.nil))))))) (Pick.cons (Take.head _ _) (Pick.cons (Take.head _ _) (Pick.cons (Take.head _ _) (Pick.cons (Take.head _ _) (Pick.cons (Take.head _ _) (Pick.cons (Take.head _ _) Pick.nil))))))
          ·
            refine T.condPF rfl g66 ?_
            refine T.exit ?_
            refine X.then_exit ?_
            have H := loop_exitE H C_1 ▸ K_1
            refine X.then_exit ?_
            refine X.block_here ?_
            exact X.metE1 () H (AllF.cons rfl (AllF.cons rfl (AllF.cons rfl AllF.nil))) (Pick.cons (Take.head _ _) (Pick.cons (Take.head _ _) (Pick.cons (Take.head _ _) (Pick.cons (Take.head _ _) Pick.nil))))
        · rintro u72 H
          unfold m_acequialaw03_FlowTurns_j2 at H
          refine T.seq ?_
          obtain ⟨g73, H⟩ := gd_some H
          refine T.regionL (ll := [0, 1, 2, 3, 4]) rfl ?_
          refine TO.fieldAddr0 rfl rfl rfl rfl TWLFlowTurns.f24_3 ?_
          refine TO.load1 rfl rfl rfl rfl TWLFlowTurns.s22 (List.Mem.head _) rfl ?_
          refine TO.lenX (xs := r3.Arcs) hn9 rfl rfl rfl rfl rfl TWLFlowTurns.l22 ?_
          refine TO.mkI g73 rfl rfl rfl rfl rfl TWLFlowTurns.l25 TWLFlowTurns.n2 TWLFlowTurns.z2 TWLFlowTurns.b2 rfl ?_; intro b74
          refine TO.assign rfl rfl rfl rfl ?_
          refine TO.done ?_
          refine X.seq_normal ?_
          refine T.seq ?_
          refine T.seq ?_
          obtain ⟨g76, H⟩ := gd_some H
          refine T.regionL (ll := [0, 1, 2, 3, 4, 5, 6]) rfl ?_
          refine TO.move rfl rfl rfl rfl ?_
          refine TO.move rfl rfl rfl rfl ?_
          refine TO.lenX (xs := moves2) h_moves2.len rfl rfl rfl rfl rfl TWLFlowTurns.l65 ?_
          refine TO.min2 rfl rfl rfl rfl rfl ?_
          refine TO.slH (xs := moves2) h_moves2.len h_moves2.cap g76 rfl rfl rfl rfl rfl TWLFlowTurns.l65 TWLFlowTurns.n52 ?_
          refine TO.lenX (xs := (moves2.take (min (moves2.length : Int) 10).toNat)) ((RW.take h_moves2 g76).len) rfl rfl rfl rfl rfl TWLFlowTurns.l65 ?_
          refine TO.move rfl rfl rfl rfl ?_
          refine TO.done ?_
          refine X.seq_normal ?_
          refine T.trim (AllF.cons (t := 3) rfl (AllF.cons (t := 7) rfl (AllF.cons (t := 8) rfl (AllF.cons (t := 82) rfl (AllF.cons (t := 83) rfl (AllF.cons (t := 84) rfl AllF.nil)))))) ?_
          refine T.meetSE5 (fun (f122 : List Int) (n123 : Nat) (c124 : Nat) (ob125 : Option Nat) (j126 : List Value) => m_acequialaw03_FlowTurns_j4 r3 r14 f122 = some r0 ∧ f122.length = n123 ∧ n123 ≤ c124 ∧ j126.length = (c124 - n123) * 1 ∧ (ob125 = none → c124 = 0)) (fun (f122 : List Int) (n123 : Nat) (c124 : Nat) (ob125 : Option Nat) (j126 : List Value) => [(3, .pointer (some ⟨b1, 0, none⟩)), (7, .pointer (some ⟨b25, 0, none⟩)), (8, .slice (sb ob125) n123 c124)]) (fun (f122 : List Int) (n123 : Nat) (c124 : Nat) (ob125 : Option Nat) (j126 : List Value) => [(some b1, .cells #[.int .i64 r3.N, .int .i64 r3.S, .int .i64 r3.T, .slice (sb ob5) n6 c7] 24 (0, 0)), (ob5, .cells (arr arcC r3.Arcs j8).toArray 28 (0, 0)), (some b25, .cells #[.int .i64 r14.N, .int .i64 r14.S, .int .i64 r14.T, .slice (sb ob16) n17 c18] 24 (0, 0)), (ob16, .cells (arr arcC r14.Arcs j19).toArray 28 (0, 0)), (ob125, .cells (arr (intC .i64) f122 j126).toArray 2 (0, 0))]) ?_ ?_
          ·
            refine T.block ?_
            obtain ⟨o_3, e_3, K_3⟩ := bd_some H
            refine T.loopE7 (fun (m_3 : Nat) (f77 : List Int) (n78 : Nat) (c79 : Nat) (ob80 : Option Nat) (j81 : List Value) (x87 : Int) => loopM (fun s => m_acequialaw03_FlowTurns_s3 moves2 r3 s.1 s.2) m_3 (f77, x87) = some o_3 ∧ f77.length = n78 ∧ n78 ≤ c79 ∧ j81.length = (c79 - n78) * 1 ∧ (ob80 = none → c79 = 0)) (fun (m_3 : Nat) (f77 : List Int) (n78 : Nat) (c79 : Nat) (ob80 : Option Nat) (j81 : List Value) (x87 : Int) => [(3, .pointer (some ⟨b1, 0, none⟩)), (7, .pointer (some ⟨b25, 0, none⟩)), (8, .slice (sb ob80) n78 c79), (82, .slice moves2_b ((min (moves2.length : Int) 10).toNat) moves2_c), (83, .int .i64 ((moves2.take (min (moves2.length : Int) 10).toNat).length : Int)), (84, .int .i64 x87)]) (fun (m_3 : Nat) (f77 : List Int) (n78 : Nat) (c79 : Nat) (ob80 : Option Nat) (j81 : List Value) (x87 : Int) => [(some b1, .cells #[.int .i64 r3.N, .int .i64 r3.S, .int .i64 r3.T, .slice (sb ob5) n6 c7] 24 (0, 0)), (ob5, .cells (arr arcC r3.Arcs j8).toArray 28 (0, 0)), (some b25, .cells #[.int .i64 r14.N, .int .i64 r14.S, .int .i64 r14.T, .slice (sb ob16) n17 c18] 24 (0, 0)), (ob16, .cells (arr arcC r14.Arcs j19).toArray 28 (0, 0)), (ob80, .cells (arr (intC .i64) f77 j81).toArray 2 (0, 0))]) (fun (m_3 : Nat) (f77 : List Int) (n78 : Nat) (c79 : Nat) (ob80 : Option Nat) (j81 : List Value) (x87 : Int) => m_3) FUEL (List.replicate ((r3.Arcs.length : Int).toNat) (0 : Int)) ((r3.Arcs.length : Int).toNat) ((r3.Arcs.length : Int).toNat) (some b74) ([]) 0 ⟨e_3, List.length_replicate, (Nat.le_refl _), (zeroJ _ _), someZ⟩ (AllF.cons rfl (AllF.cons rfl (AllF.cons rfl (AllF.cons rfl (AllF.cons rfl (AllF.cons rfl AllF.nil)))))) (Pick.cons (Take.tail (Take.head _ _)) (Pick.cons (Take.tail (Take.head _ _)) (Pick.cons (Take.tail (Take.head _ _)) (Pick.cons (Take.tail (Take.head _ _)) (Pick.cons (Take.head _ _) Pick.nil))))) ?_
            rintro m_3 f77 n78 c79 ob80 j81 x87 ⟨H, hn82, hc83, hj84, hz85⟩
            obtain ⟨n_3, r_3, rfl, H, C_3⟩ := loopM_some H
            have H : m_acequialaw03_FlowTurns_s3 moves2 r3 f77 x87 = some r_3 := H
            unfold m_acequialaw03_FlowTurns_s3 at H
            refine T.seq ?_
            refine T.regionL (ll := [0]) rfl ?_
            refine TO.bin rfl rfl rfl rfl rfl rfl ?_
            refine TO.done ?_
            refine X.seq_normal ?_
            refine T.seq ?_
            rcases ite_some H with ⟨g88, H⟩ | ⟨g88, H⟩
            ·
              refine T.condPT rfl g88 ?_
              refine T.skip ?_
              refine X.seq_normal ?_
              refine T.seq ?_
              refine T.block ?_
              refine T.seq ?_
              obtain ⟨g89, H⟩ := gd_some H
              refine T.regionL (ll := [0, 1, 2]) rfl ?_
              refine TO.ixR (RW.take h_moves2 g76).rs ((RW.take h_moves2 g76).inb g89) rfl rfl rfl rfl rfl TWLFlowTurns.l65 TWLFlowTurns.n52 ?_
              refine TO.ldWR (RW.take h_moves2 g76) g89 rfl rfl rfl rfl TWLFlowTurns.s52 ?_
              refine TO.assign rfl rfl rfl rfl ?_
              refine TO.done ?_
              refine X.seq_normal ?_
              refine T.seq ?_
              obtain ⟨g90, H⟩ := gd_some H
              obtain ⟨⟨r91, r92⟩, e93, H⟩ := bd_some H
              apply T.drawL [⟨[], false, [], relV _⟩, ⟨[], false, [], relV _⟩, ⟨[1], false, [], relV _⟩, ⟨[], false, [], relV _⟩, ⟨[], false, [], relV _⟩, ⟨[4], false, [], relV _⟩, ⟨[5], false, [], relV _⟩, ⟨[3, 6], false, [], relV _⟩, ⟨[0, 2, 7], false, [], fun _ v e => ∃ (ob94 : Option Nat) (n95 : Nat) (c96 : Nat) (j97 : List Value), v = .tuple #[.slice (sb ob94) n95 c96, .int .i64 r92] ∧ e = [(ob94, .cells (arr hopC r91 j97).toArray 60 (0, 0))] ∧ r91.length = n95 ∧ n95 ≤ c96 ∧ j97.length = (c96 - n95) * 2 ∧ (ob94 = none → c96 = 0)⟩, ⟨[8], false, [], fun vl v e => v = (vl.getD 0 undef) ∧ e = []⟩, ⟨[8, 9], false, [], fun vl v e => v = (tupAt (vl.getD 1 undef) 0) ∧ e = []⟩, ⟨[8, 9], false, [], relV _⟩, ⟨[8, 9, 10], false, [], fun vl v e => v = (vl.getD 2 undef) ∧ e = []⟩] [89, 90, 91, 92, 93, 94, 95, 96, 97, 88, 98, 99, 16] 13 (HRk [[]]) [[]] [] [(some b1, .cells #[.int .i64 r3.N, .int .i64 r3.S, .int .i64 r3.T, .slice (sb ob5) n6 c7] 24 (0, 0)), (ob5, .cells (arr arcC r3.Arcs j8).toArray 28 (0, 0)), (some b25, .cells #[.int .i64 r14.N, .int .i64 r14.S, .int .i64 r14.T, .slice (sb ob16) n17 c18] 24 (0, 0)), (ob16, .cells (arr arcC r14.Arcs j19).toArray 28 (0, 0)), (ob80, .cells (arr (intC .i64) f77 j81).toArray 2 (0, 0))]
              · exact mixed
              · exact rfl
              · kernel_rfl
              · kernel_rfl
              · kernel_rfl
              · exact rfl
              · exact rfl
              · exact rfl
              · exact rfl
              · exact (by repeat (first | exact Pick.refl _ | exact Pick.nil | apply Pick.none | refine Pick.cons (by repeat (first | exact Take.head _ _ | apply Take.tail)) ?_))
              · refine ⟨?_, ?_, ?_, ?_, ?_, ?_, ?_, ?_, ?_, ?_, ?_, ?_, ?_, trivial⟩
                · rintro vs es Es Hx -
                  refine TO.reenv (D := []) rfl ?_
                  refine TO.loadA rfl rfl rfl rfl TWLFlowTurns.a24 (List.Mem.head _) rfl ?_
                  refine TO.done ?_; exact X.obQ rfl ⟨rfl, rfl⟩ (Pick.refl _) rfl
                · rintro vs es Es Hx -
                  refine TO.reenv (D := []) rfl ?_
                  refine TO.fieldAddr0 rfl rfl rfl rfl TWLFlowTurns.f24_1 ?_
                  refine TO.done ?_; exact X.obQ rfl ⟨rfl, rfl⟩ (Pick.refl _) rfl
                · rintro vs es Es Hx ⟨⟨h_1, e_1⟩, -⟩
                  refine TO.reenv (D := [(90, vs 1)]) rfl ?_; rw [h_1]
                  refine TO.load1 rfl rfl rfl rfl TWLFlowTurns.s3 (List.Mem.head _) rfl ?_
                  refine TO.done ?_; exact X.obQ rfl ⟨rfl, rfl⟩ (Pick.refl _) (by show [(90, vs 1)] = _; rw [h_1])
                · rintro vs es Es Hx -
                  refine TO.reenv (D := []) rfl ?_
                  refine TO.move rfl rfl rfl rfl ?_
                  refine TO.done ?_; exact X.obQ rfl ⟨rfl, rfl⟩ (Pick.refl _) rfl
                · rintro vs es Es Hx -
                  refine TO.reenv (D := []) rfl ?_
                  refine TO.move rfl rfl rfl rfl ?_
                  refine TO.done ?_; exact X.obQ rfl ⟨rfl, rfl⟩ (Pick.refl _) rfl
                · rintro vs es Es Hx ⟨⟨h_4, e_4⟩, -⟩
                  refine TO.reenv (D := [(93, vs 4)]) rfl ?_; rw [h_4]
                  refine TO.lenX (xs := ((moves2.take (min (moves2.length : Int) 10).toNat).getD x87.toNat [])) (((RW.take h_moves2 g76).at g89).len) rfl rfl rfl rfl rfl TWLFlowTurns.l52 ?_
                  refine TO.done ?_; exact X.obQ rfl ⟨rfl, rfl⟩ (Pick.refl _) (by show [(93, vs 4)] = _; rw [h_4])
                · rintro vs es Es Hx ⟨⟨h_5, e_5⟩, -⟩
                  refine TO.reenv (D := [(94, vs 5)]) rfl ?_; rw [h_5]
                  refine TO.min2 rfl rfl rfl rfl rfl ?_
                  refine TO.done ?_; exact X.obQ rfl ⟨rfl, rfl⟩ (Pick.refl _) (by show [(94, vs 5)] = _; rw [h_5])
                · rintro vs es Es Hx ⟨⟨h_3, e_3⟩, ⟨h_6, e_6⟩, -⟩
                  refine TO.reenv (D := [(92, vs 3), (95, vs 6)]) rfl ?_; rw [h_3, h_6]
                  refine TO.slH (xs := ((moves2.take (min (moves2.length : Int) 10).toNat).getD x87.toNat [])) (((RW.take h_moves2 g76).at g89).len) (((RW.take h_moves2 g76).at g89).cap) g90 rfl rfl rfl rfl rfl TWLFlowTurns.l52 TWLFlowTurns.n5 ?_
                  refine TO.done ?_; exact X.obQ rfl ⟨rfl, rfl⟩ (Pick.refl _) (by show [(92, vs 3), (95, vs 6)] = _; rw [h_3, h_6])
                · rintro vs es Es Hx ⟨⟨h_0, e_0⟩, ⟨h_2, e_2⟩, ⟨h_7, e_7⟩, -⟩
                  refine TO.reenv (D := [(89, vs 0), (91, vs 2), (96, vs 7)]) rfl ?_; rw [h_0, h_2, h_7]
                  refine TO.callX TWLFlowTurns.c33 rfl rfl rfl rfl (fun wc hwc => w_acequialaw03_hops (n0 := r3) (v1 := r3.S) (l2 := (((moves2.take (min (moves2.length : Int) 10).toNat).getD x87.toNat []).take (min (((moves2.take (min (moves2.length : Int) 10).toNat).getD x87.toNat []).length : Int) 20).toNat)) wc (hwc.rs (f := arcC) (s := 3) (xs := r3.Arcs) (j := j8) (fun _ => rfl) (List.Mem.tail _ (List.Mem.head _)) hn9 hc10 hz12) ((RS.take ((RW.take h_moves2 g76).at g89) g90).mono hwc) e93) ?_
                  rintro _ _ ⟨ob94, n95, c96, j97, rfl, rfl, hn98, hc99, hj100, hz101⟩
                  refine TO.done ?_; exact X.obQ rfl ⟨ob94, n95, c96, j97, rfl, rfl, hn98, hc99, hj100, hz101⟩ (by repeat (first | exact Pick.refl _ | exact Pick.nil | apply Pick.none | refine Pick.cons (by repeat (first | exact Take.head _ _ | apply Take.tail)) ?_)) (by show [(89, vs 0), (91, vs 2), (96, vs 7)] = _; rw [h_0, h_2, h_7])
                · rintro vs es Es Hx ⟨⟨ob94, n95, c96, j97, h_8, e_8, hn98, hc99, hj100, hz101⟩, -⟩
                  refine TO.reenv (D := [(97, vs 8)]) rfl ?_; rw [h_8]
                  refine TO.reheap (H := [(some b1, .cells #[.int .i64 r3.N, .int .i64 r3.S, .int .i64 r3.T, .slice (sb ob5) n6 c7] 24 (0, 0)), (ob5, .cells (arr arcC r3.Arcs j8).toArray 28 (0, 0)), (some b25, .cells #[.int .i64 r14.N, .int .i64 r14.S, .int .i64 r14.T, .slice (sb ob16) n17 c18] 24 (0, 0)), (ob16, .cells (arr arcC r14.Arcs j19).toArray 28 (0, 0)), (ob80, .cells (arr (intC .i64) f77 j81).toArray 2 (0, 0))] ++ ([(ob94, .cells (arr hopC r91 j97).toArray 60 (0, 0))] ++ Hx)) (by show _ ++ ((es 8 ++ ([])) ++ _) = _; rw [e_8]; rfl) ?_
                  refine TO.move rfl rfl rfl rfl ?_
                  refine TO.done ?_; exact X.obQ rfl ⟨by show _ = vs 8; rw [h_8] <;> rfl, rfl⟩ (by show Pick (_ ++ (_ ++ ((es 8 ++ ([])) ++ _))) _; rw [e_8]; exact (by repeat (first | exact Pick.refl _ | exact Pick.nil | apply Pick.none | refine Pick.cons (by repeat (first | exact Take.head _ _ | apply Take.tail)) ?_))) (by show [(97, vs 8)] = _; rw [h_8])
                · rintro vs es Es Hx ⟨⟨ob94, n95, c96, j97, h_8, e_8, hn98, hc99, hj100, hz101⟩, ⟨q_9, e_9⟩, -⟩
                  have h_9 : vs 9 = .tuple #[.slice (sb ob94) n95 c96, .int .i64 r92] := by refine Eq.trans q_9 ?_; show vs 8 = _; rw [h_8] <;> rfl
                  refine TO.reenv (D := [(97, vs 8), (88, vs 9)]) rfl ?_; rw [h_8, h_9]
                  refine TO.reheap (H := [(some b1, .cells #[.int .i64 r3.N, .int .i64 r3.S, .int .i64 r3.T, .slice (sb ob5) n6 c7] 24 (0, 0)), (ob5, .cells (arr arcC r3.Arcs j8).toArray 28 (0, 0)), (some b25, .cells #[.int .i64 r14.N, .int .i64 r14.S, .int .i64 r14.T, .slice (sb ob16) n17 c18] 24 (0, 0)), (ob16, .cells (arr arcC r14.Arcs j19).toArray 28 (0, 0)), (ob80, .cells (arr (intC .i64) f77 j81).toArray 2 (0, 0))] ++ ([(ob94, .cells (arr hopC r91 j97).toArray 60 (0, 0))] ++ Hx)) (by show _ ++ ((es 8 ++ (es 9 ++ ([]))) ++ _) = _; rw [e_8, e_9]; rfl) ?_
                  refine TO.extract rfl rfl rfl rfl rfl ?_
                  refine TO.done ?_; exact X.obQ rfl ⟨by show _ = (tupAt (vs 9) 0); rw [h_9] <;> rfl, rfl⟩ (by show Pick (_ ++ (_ ++ ((es 8 ++ (es 9 ++ ([]))) ++ _))) _; rw [e_8, e_9]; exact (by repeat (first | exact Pick.refl _ | exact Pick.nil | apply Pick.none | refine Pick.cons (by repeat (first | exact Take.head _ _ | apply Take.tail)) ?_))) (by show [(97, vs 8), (88, vs 9)] = _; rw [h_8, h_9])
                · rintro vs es Es Hx ⟨⟨ob94, n95, c96, j97, h_8, e_8, hn98, hc99, hj100, hz101⟩, ⟨q_9, e_9⟩, -⟩
                  have h_9 : vs 9 = .tuple #[.slice (sb ob94) n95 c96, .int .i64 r92] := by refine Eq.trans q_9 ?_; show vs 8 = _; rw [h_8] <;> rfl
                  refine TO.reenv (D := [(97, vs 8), (88, vs 9)]) rfl ?_; rw [h_8, h_9]
                  refine TO.reheap (H := [(some b1, .cells #[.int .i64 r3.N, .int .i64 r3.S, .int .i64 r3.T, .slice (sb ob5) n6 c7] 24 (0, 0)), (ob5, .cells (arr arcC r3.Arcs j8).toArray 28 (0, 0)), (some b25, .cells #[.int .i64 r14.N, .int .i64 r14.S, .int .i64 r14.T, .slice (sb ob16) n17 c18] 24 (0, 0)), (ob16, .cells (arr arcC r14.Arcs j19).toArray 28 (0, 0)), (ob80, .cells (arr (intC .i64) f77 j81).toArray 2 (0, 0))] ++ ([(ob94, .cells (arr hopC r91 j97).toArray 60 (0, 0))] ++ Hx)) (by show _ ++ ((es 8 ++ (es 9 ++ ([]))) ++ _) = _; rw [e_8, e_9]; rfl) ?_
                  refine TO.extract rfl rfl rfl rfl rfl ?_
                  refine TO.done ?_; exact X.obQ rfl ⟨rfl, rfl⟩ (by show Pick (_ ++ (_ ++ ((es 8 ++ (es 9 ++ ([]))) ++ _))) _; rw [e_8, e_9]; exact (by repeat (first | exact Pick.refl _ | exact Pick.nil | apply Pick.none | refine Pick.cons (by repeat (first | exact Take.head _ _ | apply Take.tail)) ?_))) (by show [(97, vs 8), (88, vs 9)] = _; rw [h_8, h_9])
                · rintro vs es Es Hx ⟨⟨ob94, n95, c96, j97, h_8, e_8, hn98, hc99, hj100, hz101⟩, ⟨q_9, e_9⟩, ⟨q_10, e_10⟩, -⟩
                  have h_9 : vs 9 = .tuple #[.slice (sb ob94) n95 c96, .int .i64 r92] := by refine Eq.trans q_9 ?_; show vs 8 = _; rw [h_8] <;> rfl
                  have h_10 : vs 10 = .slice (sb ob94) n95 c96 := by refine Eq.trans q_10 ?_; show (tupAt (vs 9) 0) = _; rw [h_9] <;> rfl
                  refine TO.reenv (D := [(97, vs 8), (88, vs 9), (98, vs 10)]) rfl ?_; rw [h_8, h_9, h_10]
                  refine TO.reheap (H := [(some b1, .cells #[.int .i64 r3.N, .int .i64 r3.S, .int .i64 r3.T, .slice (sb ob5) n6 c7] 24 (0, 0)), (ob5, .cells (arr arcC r3.Arcs j8).toArray 28 (0, 0)), (some b25, .cells #[.int .i64 r14.N, .int .i64 r14.S, .int .i64 r14.T, .slice (sb ob16) n17 c18] 24 (0, 0)), (ob16, .cells (arr arcC r14.Arcs j19).toArray 28 (0, 0)), (ob80, .cells (arr (intC .i64) f77 j81).toArray 2 (0, 0))] ++ ([(ob94, .cells (arr hopC r91 j97).toArray 60 (0, 0))] ++ Hx)) (by show _ ++ ((es 8 ++ (es 9 ++ (es 10 ++ ([])))) ++ _) = _; rw [e_8, e_9, e_10]; rfl) ?_
                  refine TO.assign rfl rfl rfl rfl ?_
                  refine TO.done ?_; exact X.obQ rfl ⟨by show _ = vs 10; rw [h_10] <;> rfl, rfl⟩ (by show Pick (_ ++ (_ ++ ((es 8 ++ (es 9 ++ (es 10 ++ ([])))) ++ _))) _; rw [e_8, e_9, e_10]; exact (by repeat (first | exact Pick.refl _ | exact Pick.nil | apply Pick.none | refine Pick.cons (by repeat (first | exact Take.head _ _ | apply Take.tail)) ?_))) (by show [(97, vs 8), (88, vs 9), (98, vs 10)] = _; rw [h_8, h_9, h_10])
              · rintro vs es hb ⟨⟨h_0, e_0⟩, ⟨h_1, e_1⟩, ⟨h_2, e_2⟩, ⟨h_3, e_3⟩, ⟨h_4, e_4⟩, ⟨h_5, e_5⟩, ⟨h_6, e_6⟩, ⟨h_7, e_7⟩, ⟨ob94, n95, c96, j97, h_8, e_8, hn98, hc99, hj100, hz101⟩, ⟨q_9, e_9⟩, ⟨q_10, e_10⟩, ⟨h_11, e_11⟩, ⟨q_12, e_12⟩, -⟩ hHR
                obtain rfl : hb = [] := hHR
                have h_9 : vs 9 = .tuple #[.slice (sb ob94) n95 c96, .int .i64 r92] := by refine Eq.trans q_9 ?_; show vs 8 = _; rw [h_8] <;> rfl
                have h_10 : vs 10 = .slice (sb ob94) n95 c96 := by refine Eq.trans q_10 ?_; show (tupAt (vs 9) 0) = _; rw [h_9] <;> rfl
                have h_12 : vs 12 = .slice (sb ob94) n95 c96 := by refine Eq.trans q_12 ?_; show vs 10 = _; rw [h_10] <;> rfl
                refine TO.reenv (D := [(89, vs 0), (90, vs 1), (91, vs 2), (92, vs 3), (93, vs 4), (94, vs 5), (95, vs 6), (96, vs 7), (97, vs 8), (88, vs 9), (98, vs 10), (99, vs 11), (16, vs 12)]) rfl ?_
                refine TO.reheap (H := [(some b1, .cells #[.int .i64 r3.N, .int .i64 r3.S, .int .i64 r3.T, .slice (sb ob5) n6 c7] 24 (0, 0)), (ob5, .cells (arr arcC r3.Arcs j8).toArray 28 (0, 0)), (some b25, .cells #[.int .i64 r14.N, .int .i64 r14.S, .int .i64 r14.T, .slice (sb ob16) n17 c18] 24 (0, 0)), (ob16, .cells (arr arcC r14.Arcs j19).toArray 28 (0, 0)), (ob80, .cells (arr (intC .i64) f77 j81).toArray 2 (0, 0)), (ob94, .cells (arr hopC r91 j97).toArray 60 (0, 0))]) (by show _ ++ (_ ++ (es 0 ++ (es 1 ++ (es 2 ++ (es 3 ++ (es 4 ++ (es 5 ++ (es 6 ++ (es 7 ++ (es 8 ++ (es 9 ++ (es 10 ++ (es 11 ++ (es 12 ++ ([]))))))))))))))) = _; rw [e_0, e_1, e_2, e_3, e_4, e_5, e_6, e_7, e_8, e_9, e_10, e_11, e_12]; rfl) ?_
                rw [h_0, h_1, h_2, h_3, h_4, h_5, h_6, h_7, h_8, h_9, h_10, h_11, h_12]
                clear h_12 h_11 h_10 h_9 h_8 h_7 h_6 h_5 h_4 h_3 h_2 h_1 h_0 q_9 q_10 q_12 e_0 e_1 e_2 e_3 e_4 e_5 e_6 e_7 e_8 e_9 e_10 e_11 e_12
                refine TO.assign rfl rfl rfl rfl ?_
                refine TO.done ?_
                refine X.seq_normal ?_
                refine T.trim (AllF.cons (t := 3) rfl (AllF.cons (t := 7) rfl (AllF.cons (t := 8) rfl (AllF.cons (t := 82) rfl (AllF.cons (t := 83) rfl (AllF.cons (t := 84) rfl (AllF.cons (t := 16) rfl (AllF.cons (t := 17) rfl AllF.nil)))))))) ?_
                refine T.seq ?_
                refine T.seq ?_
                refine T.regionL (ll := [0, 1, 2, 3]) rfl ?_
                refine TO.move rfl rfl rfl rfl ?_
                refine TO.fieldAddr0 rfl rfl rfl rfl TWLFlowTurns.f24_2 ?_
                refine TO.load1 rfl rfl rfl rfl TWLFlowTurns.s3 (List.Mem.head _) rfl ?_
                refine TO.bin rfl rfl rfl rfl rfl rfl ?_
                refine TO.done ?_
                refine X.seq_normal ?_
                rcases ite_some H with ⟨g103, H⟩ | ⟨g103, H⟩
                ·
                  refine T.condPT rfl g103 ?_
                  refine T.exit ?_
                  refine X.then_exit ?_
                  refine X.block_here ?_
                  refine X.seq_normal ?_
                  obtain ⟨g104, H⟩ := gd_some H
                  refine T.regionL (ll := [0, 1]) rfl ?_
                  refine TO.addG g104 rfl rfl rfl rfl rfl ?_
                  refine TO.move rfl rfl rfl rfl ?_
                  refine TO.done ?_
                  have H := loop_next H C_3
                  exact X.againE7 n_3 f77 n78 c79 ob80 j81 (x87 + 1) ⟨H, hn82, hc83, hj84, hz85⟩ (Nat.lt_succ_self _) (AllF.cons rfl (AllF.cons rfl (AllF.cons rfl (AllF.cons rfl (AllF.cons rfl (AllF.cons rfl AllF.nil)))))) (Pick.cons (Take.head _ _) (Pick.cons (Take.head _ _) (Pick.cons (Take.head _ _) (Pick.cons (Take.head _ _) (Pick.cons (Take.head _ _) Pick.nil)))))
                ·
                  refine T.condPF rfl g103 ?_
                  refine T.skip ?_
                  refine X.seq_normal ?_
                  refine T.seq ?_
                  obtain ⟨⟨r105, r106⟩, e107, H⟩ := bd_some H
                  refine T.regionL (ll := [0, 1, 2, 3, 4, 5, 6, 7, 8]) rfl ?_
                  refine TO.loadA rfl rfl rfl rfl TWLFlowTurns.a24 (List.Mem.head _) rfl ?_
                  refine TO.move rfl rfl rfl rfl ?_
                  refine TO.move rfl rfl rfl rfl ?_
                  refine TO.callX TWLFlowTurns.c34 rfl rfl rfl rfl (fun wc hwc => w_flow_Room (n0 := r3) (f1 := f77) (l2 := r91) wc (hwc.rs (f := arcC) (s := 3) (xs := r3.Arcs) (j := j8) (fun _ => rfl) (List.Mem.tail _ (List.Mem.head _)) hn9 hc10 hz12) (hwc.rs (f := (intC .i64)) (s := 1) (xs := f77) (j := j81) (fun _ => rfl) (List.Mem.tail _ (List.Mem.tail _ (List.Mem.tail _ (List.Mem.tail _ (List.Mem.head _))))) hn82 hc83 hz85) (hwc.rs (f := hopC) (s := 2) (xs := r91) (j := j97) (fun _ => rfl) (List.Mem.tail _ (List.Mem.tail _ (List.Mem.tail _ (List.Mem.tail _ (List.Mem.tail _ (List.Mem.head _)))))) hn98 hc99 hz101) e107) ?_
                  rintro _ _ ⟨rfl, rfl⟩
                  refine TO.move rfl rfl rfl rfl ?_
                  refine TO.extract rfl rfl rfl rfl rfl ?_
                  refine TO.extract rfl rfl rfl rfl rfl ?_
                  refine TO.assign rfl rfl rfl rfl ?_
                  refine TO.assign rfl rfl rfl rfl ?_
                  refine TO.done ?_
                  refine X.seq_normal ?_
                  refine T.trim (AllF.cons (t := 3) rfl (AllF.cons (t := 7) rfl (AllF.cons (t := 8) rfl (AllF.cons (t := 82) rfl (AllF.cons (t := 83) rfl (AllF.cons (t := 84) rfl (AllF.cons (t := 16) rfl (AllF.cons (t := 18) rfl AllF.nil)))))))) ?_
                  refine T.seq ?_
                  obtain ⟨⟨r108, r109⟩, e110, H⟩ := bd_some H
                  refine T.regionL (ll := [0, 1, 2, 3, 4, 5, 6, 7, 8, 9, 10]) rfl ?_
                  refine TO.loadA rfl rfl rfl rfl TWLFlowTurns.a24 (List.Mem.head _) rfl ?_
                  refine TO.move rfl rfl rfl rfl ?_
                  refine TO.move rfl rfl rfl rfl ?_
                  refine TO.move rfl rfl rfl rfl ?_
                  refine TO.min2 rfl rfl rfl rfl rfl ?_
                  refine TO.callX TWLFlowTurns.c35 rfl rfl rfl rfl (fun wc hwc => w_flow_Send (n0 := r3) (f1 := f77) (l2 := r91) (d3 := (min r105 1125899906842624)) wc (hwc.rs (f := arcC) (s := 3) (xs := r3.Arcs) (j := j8) (fun _ => rfl) (List.Mem.tail _ (List.Mem.head _)) hn9 hc10 hz12) (hwc.rs (f := (intC .i64)) (s := 1) (xs := f77) (j := j81) (fun _ => rfl) (List.Mem.tail _ (List.Mem.tail _ (List.Mem.tail _ (List.Mem.tail _ (List.Mem.head _))))) hn82 hc83 hz85) (hwc.rs (f := hopC) (s := 2) (xs := r91) (j := j97) (fun _ => rfl) (List.Mem.tail _ (List.Mem.tail _ (List.Mem.tail _ (List.Mem.tail _ (List.Mem.tail _ (List.Mem.head _)))))) hn98 hc99 hz101) e110) ?_
                  rintro _ _ ⟨ob111, n112, c113, j114, rfl, rfl, hn115, hc116, hj117, hz118⟩
                  refine TO.move rfl rfl rfl rfl ?_
                  refine TO.extract rfl rfl rfl rfl rfl ?_
                  refine TO.extract rfl rfl rfl rfl rfl ?_
                  refine TO.assign rfl rfl rfl rfl ?_
                  refine TO.assign rfl rfl rfl rfl ?_
                  refine TO.done ?_
                  refine X.seq_normal ?_
                  refine T.trim (AllF.cons (t := 3) rfl (AllF.cons (t := 7) rfl (AllF.cons (t := 82) rfl (AllF.cons (t := 83) rfl (AllF.cons (t := 84) rfl (AllF.cons (t := 20) rfl (AllF.cons (t := 21) rfl AllF.nil))))))) ?_
                  refine T.seq ?_
                  refine T.seq ?_
                  refine T.regionL (ll := [0, 1]) rfl ?_
                  refine TO.move rfl rfl rfl rfl ?_
                  refine TO.bin rfl rfl rfl rfl rfl rfl ?_
                  refine TO.done ?_
                  refine X.seq_normal ?_
                  rcases ite_some H with ⟨g120, H⟩ | ⟨g120, H⟩
                  ·
                    refine T.condPT rfl g120 ?_
                    refine T.seq ?_
                    refine T.regionL (ll := [0]) rfl ?_
                    refine TO.assign rfl rfl rfl rfl ?_
                    refine TO.done ?_
                    refine X.seq_normal ?_
                    refine T.trim (AllF.cons (t := 6) rfl AllF.nil) ?_
                    refine T.ret ?_
                    refine X.then_ret ?_
                    refine X.block_ret ?_
                    refine X.then_ret ?_
                    have H := loop_exitE H C_3 ▸ K_3
                    refine X.then_ret ?_
                    refine X.block_ret ?_
                    refine X.then_ret ?_
                    obtain rfl := ret1 H
                    exact X.ret1 rfl rfl rfl rfl (Res.tmp rfl) Pick.nil ⟨rfl, rfl⟩
                  ·
                    refine T.condPF rfl g120 ?_
                    refine T.skip ?_
                    refine X.seq_normal ?_
                    refine T.regionL (ll := [0, 1]) rfl ?_
                    refine TO.move rfl rfl rfl rfl ?_
                    refine TO.assign rfl rfl rfl rfl ?_
                    refine TO.done ?_
                    refine X.block_normal ?_
                    refine X.seq_normal ?_
                    obtain ⟨g121, H⟩ := gd_some H
                    refine T.regionL (ll := [0, 1]) rfl ?_
                    refine TO.addG g121 rfl rfl rfl rfl rfl ?_
                    refine TO.move rfl rfl rfl rfl ?_
                    refine TO.done ?_
                    have H := loop_next H C_3
                    exact X.againE7 n_3 r108 n112 c113 ob111 j114 (x87 + 1) ⟨H, hn115, hc116, hj117, hz118⟩ (Nat.lt_succ_self _) (AllF.cons rfl (AllF.cons rfl (AllF.cons rfl (AllF.cons rfl (AllF.cons rfl (AllF.cons rfl AllF.nil)))))) (Pick.cons (Take.tail (Take.head _ _)) (Pick.cons (Take.tail (Take.head _ _)) (Pick.cons (Take.tail (Take.head _ _)) (Pick.cons (Take.tail (Take.head _ _)) (Pick.cons (Take.head _ _) Pick.nil)))))
            ·
              refine T.condPF rfl g88 ?_
              refine T.exit ?_
              refine X.then_exit ?_
              have H := loop_exitE H C_3 ▸ K_3
              refine X.then_exit ?_
              refine X.block_here ?_
              exact X.metE5 f77 n78 c79 ob80 j81 ⟨H, hn82, hc83, hj84, hz85⟩ (AllF.cons rfl (AllF.cons rfl (AllF.cons rfl AllF.nil))) (Pick.cons (Take.head _ _) (Pick.cons (Take.head _ _) (Pick.cons (Take.head _ _) (Pick.cons (Take.head _ _) (Pick.cons (Take.head _ _) Pick.nil)))))
          · rintro f122 n123 c124 ob125 j126 ⟨H, hn127, hc128, hj129, hz130⟩
            unfold m_acequialaw03_FlowTurns_j4 at H
            refine T.seq ?_
            obtain ⟨⟨r132, r133⟩, e134, H⟩ := bd_some H
            refine T.regionL (ll := [0, 1, 2, 3, 4, 5, 6, 7]) rfl ?_
            refine TO.loadA rfl rfl rfl rfl TWLFlowTurns.a24 (List.Mem.head _) rfl ?_
            refine TO.move rfl rfl rfl rfl ?_
            refine TO.callX TWLFlowTurns.c29 rfl rfl rfl rfl (fun wc hwc => w_flow_Value (n0 := r3) (f1 := f122) wc (hwc.rs (f := arcC) (s := 3) (xs := r3.Arcs) (j := j8) (fun _ => rfl) (List.Mem.tail _ (List.Mem.head _)) hn9 hc10 hz12) (hwc.rs (f := (intC .i64)) (s := 1) (xs := f122) (j := j126) (fun _ => rfl) (List.Mem.tail _ (List.Mem.tail _ (List.Mem.tail _ (List.Mem.tail _ (List.Mem.head _))))) hn127 hc128 hz130) e134) ?_
            rintro _ _ ⟨rfl, rfl⟩
            refine TO.move rfl rfl rfl rfl ?_
            refine TO.extract rfl rfl rfl rfl rfl ?_
            refine TO.extract rfl rfl rfl rfl rfl ?_
            refine TO.assign rfl rfl rfl rfl ?_
            refine TO.assign rfl rfl rfl rfl ?_
            refine TO.done ?_
            refine X.seq_normal ?_
            refine T.seq ?_
            obtain ⟨⟨r135, r136⟩, e137, H⟩ := bd_some H
            refine T.regionL (ll := [0, 1, 2, 3, 4, 5, 6, 7]) rfl ?_
            refine TO.loadA rfl rfl rfl rfl TWLFlowTurns.a24 (List.Mem.tail _ (List.Mem.tail _ (List.Mem.head _))) rfl ?_
            refine TO.move rfl rfl rfl rfl ?_
            refine TO.callX TWLFlowTurns.c29 rfl rfl rfl rfl (fun wc hwc => w_flow_Value (n0 := r14) (f1 := f122) wc (hwc.rs (f := arcC) (s := 3) (xs := r14.Arcs) (j := j19) (fun _ => rfl) (List.Mem.tail _ (List.Mem.tail _ (List.Mem.tail _ (List.Mem.head _)))) hn20 hc21 hz23) (hwc.rs (f := (intC .i64)) (s := 1) (xs := f122) (j := j126) (fun _ => rfl) (List.Mem.tail _ (List.Mem.tail _ (List.Mem.tail _ (List.Mem.tail _ (List.Mem.head _))))) hn127 hc128 hz130) e137) ?_
            rintro _ _ ⟨rfl, rfl⟩
            refine TO.move rfl rfl rfl rfl ?_
            refine TO.extract rfl rfl rfl rfl rfl ?_
            refine TO.extract rfl rfl rfl rfl rfl ?_
            refine TO.assign rfl rfl rfl rfl ?_
            refine TO.assign rfl rfl rfl rfl ?_
            refine TO.done ?_
            refine X.seq_normal ?_
            refine T.trim (AllF.cons (t := 22) rfl (AllF.cons (t := 23) rfl (AllF.cons (t := 24) rfl (AllF.cons (t := 25) rfl AllF.nil)))) ?_
            refine T.seq ?_
            rcases ite_some H with ⟨g138, H⟩ | ⟨g138, H⟩
            ·
              rcases ite_some H with ⟨g139, H⟩ | ⟨g139, H⟩
              ·
                rcases ite_some H with ⟨g140, H⟩ | ⟨g140, H⟩
                ·
                  rcases ite_some H with ⟨g141, H⟩ | ⟨g141, H⟩
                  ·
                    obtain ⟨r142, e143, H⟩ := bd_some H
                    refine T.regionL (ll := [0, 1, 2, 3, 4, 5, 6, 7, 8, 9, 10, 11, 12, 13, 14, 15, 16, 17, 18]) rfl ?_
                    refine TO.move rfl rfl rfl rfl ?_
                    refine TO.bin rfl rfl rfl rfl rfl rfl ?_
                    refine TO.move rfl rfl rfl rfl ?_
                    refine TO.decB (t := 138) (b' := true) rfl (decide_eq_true g138) ?_
                    refine TO.move rfl rfl rfl rfl ?_
                    refine TO.bin rfl rfl rfl rfl rfl rfl ?_
                    refine TO.pickT rfl rfl rfl rfl rfl ?_
                    refine TO.move rfl rfl rfl rfl ?_
                    refine TO.decB (t := 142) (b' := true) rfl (decide_eq_true g139) ?_
                    refine TO.move rfl rfl rfl rfl ?_
                    refine TO.move rfl rfl rfl rfl ?_
                    refine TO.bin rfl rfl rfl rfl rfl rfl ?_
                    refine TO.pickT rfl rfl rfl rfl rfl ?_
                    refine TO.move rfl rfl rfl rfl ?_
                    refine TO.decB (t := 147) (b' := true) rfl (decide_eq_true g140) ?_
                    refine TO.move rfl rfl rfl rfl ?_
                    refine TO.bin rfl rfl rfl rfl rfl rfl ?_
                    refine TO.pickT rfl rfl rfl rfl rfl ?_
                    refine TO.move rfl rfl rfl rfl ?_
                    refine TO.decB (t := 151) (b' := true) rfl (decide_eq_true g141) ?_
                    refine TO.callX TWLFlowTurns.c32 rfl rfl rfl rfl (fun wc hwc => w_acequialaw03_awake  wc  e143) ?_
                    rintro _ _ ⟨rfl, rfl⟩
                    refine TO.pickT rfl rfl rfl rfl rfl ?_
                    refine TO.assign rfl rfl rfl rfl ?_
                    refine TO.done ?_
                    refine X.seq_normal ?_
                    refine T.trim (AllF.cons (t := 6) rfl AllF.nil) ?_
                    refine T.ret ?_
                    obtain rfl := ret1 H
                    exact X.ret1 rfl rfl rfl rfl (Res.tmp rfl) Pick.nil ⟨rfl, rfl⟩
                  ·
                    refine T.regionL (ll := [0, 1, 2, 3, 4, 5, 6, 7, 8, 9, 10, 11, 12, 13, 14, 15, 16, 17, 18]) rfl ?_
                    refine TO.move rfl rfl rfl rfl ?_
                    refine TO.bin rfl rfl rfl rfl rfl rfl ?_
                    refine TO.move rfl rfl rfl rfl ?_
                    refine TO.decB (t := 138) (b' := true) rfl (decide_eq_true g138) ?_
                    refine TO.move rfl rfl rfl rfl ?_
                    refine TO.bin rfl rfl rfl rfl rfl rfl ?_
                    refine TO.pickT rfl rfl rfl rfl rfl ?_
                    refine TO.move rfl rfl rfl rfl ?_
                    refine TO.decB (t := 142) (b' := true) rfl (decide_eq_true g139) ?_
                    refine TO.move rfl rfl rfl rfl ?_
                    refine TO.move rfl rfl rfl rfl ?_
                    refine TO.bin rfl rfl rfl rfl rfl rfl ?_
                    refine TO.pickT rfl rfl rfl rfl rfl ?_
                    refine TO.move rfl rfl rfl rfl ?_
                    refine TO.decB (t := 147) (b' := true) rfl (decide_eq_true g140) ?_
                    refine TO.move rfl rfl rfl rfl ?_
                    refine TO.bin rfl rfl rfl rfl rfl rfl ?_
                    refine TO.pickT rfl rfl rfl rfl rfl ?_
                    refine TO.move rfl rfl rfl rfl ?_
                    refine TO.decB (t := 151) (b' := false) rfl (decide_eq_false g141) ?_
                    refine TO.shut rfl rfl rfl rfl ?_
                    refine TO.pickF rfl rfl rfl rfl rfl ?_
                    refine TO.assign rfl rfl rfl rfl ?_
                    refine TO.done ?_
                    refine X.seq_normal ?_
                    refine T.trim (AllF.cons (t := 6) rfl AllF.nil) ?_
                    refine T.ret ?_
                    obtain rfl := ret1 H
                    exact X.ret1 rfl rfl rfl rfl (Res.tmp rfl) Pick.nil ⟨rfl, rfl⟩
                ·
                  refine T.regionL (ll := [0, 1, 2, 3, 4, 5, 6, 7, 8, 9, 10, 11, 12, 13, 14, 15, 16, 17, 18]) rfl ?_
                  refine TO.move rfl rfl rfl rfl ?_
                  refine TO.bin rfl rfl rfl rfl rfl rfl ?_
                  refine TO.move rfl rfl rfl rfl ?_
                  refine TO.decB (t := 138) (b' := true) rfl (decide_eq_true g138) ?_
                  refine TO.move rfl rfl rfl rfl ?_
                  refine TO.bin rfl rfl rfl rfl rfl rfl ?_
                  refine TO.pickT rfl rfl rfl rfl rfl ?_
                  refine TO.move rfl rfl rfl rfl ?_
                  refine TO.decB (t := 142) (b' := true) rfl (decide_eq_true g139) ?_
                  refine TO.move rfl rfl rfl rfl ?_
                  refine TO.move rfl rfl rfl rfl ?_
                  refine TO.bin rfl rfl rfl rfl rfl rfl ?_
                  refine TO.pickT rfl rfl rfl rfl rfl ?_
                  refine TO.move rfl rfl rfl rfl ?_
                  refine TO.decB (t := 147) (b' := false) rfl (decide_eq_false g140) ?_
                  refine TO.shut rfl rfl rfl rfl ?_
                  refine TO.shut rfl rfl rfl rfl ?_
                  refine TO.pickF rfl rfl rfl rfl rfl ?_
                  refine TO.move rfl rfl rfl rfl ?_
                  refine TO.shut rfl rfl rfl rfl ?_
                  refine TO.pickF rfl rfl rfl rfl rfl ?_
                  refine TO.assign rfl rfl rfl rfl ?_
                  refine TO.done ?_
                  refine X.seq_normal ?_
                  refine T.trim (AllF.cons (t := 6) rfl AllF.nil) ?_
                  refine T.ret ?_
                  obtain rfl := ret1 H
                  exact X.ret1 rfl rfl rfl rfl (Res.tmp rfl) Pick.nil ⟨rfl, rfl⟩
              ·
                refine T.regionL (ll := [0, 1, 2, 3, 4, 5, 6, 7, 8, 9, 10, 11, 12, 13, 14, 15, 16, 17, 18]) rfl ?_
                refine TO.move rfl rfl rfl rfl ?_
                refine TO.bin rfl rfl rfl rfl rfl rfl ?_
                refine TO.move rfl rfl rfl rfl ?_
                refine TO.decB (t := 138) (b' := true) rfl (decide_eq_true g138) ?_
                refine TO.move rfl rfl rfl rfl ?_
                refine TO.bin rfl rfl rfl rfl rfl rfl ?_
                refine TO.pickT rfl rfl rfl rfl rfl ?_
                refine TO.move rfl rfl rfl rfl ?_
                refine TO.decB (t := 142) (b' := false) rfl (decide_eq_false g139) ?_
                refine TO.shut rfl rfl rfl rfl ?_
                refine TO.shut rfl rfl rfl rfl ?_
                refine TO.shut rfl rfl rfl rfl ?_
                refine TO.pickF rfl rfl rfl rfl rfl ?_
                refine TO.move rfl rfl rfl rfl ?_
                refine TO.shut rfl rfl rfl rfl ?_
                refine TO.shut rfl rfl rfl rfl ?_
                refine TO.pickF rfl rfl rfl rfl rfl ?_
                refine TO.move rfl rfl rfl rfl ?_
                refine TO.shut rfl rfl rfl rfl ?_
                refine TO.pickF rfl rfl rfl rfl rfl ?_
                refine TO.assign rfl rfl rfl rfl ?_
                refine TO.done ?_
                refine X.seq_normal ?_
                refine T.trim (AllF.cons (t := 6) rfl AllF.nil) ?_
                refine T.ret ?_
                obtain rfl := ret1 H
                exact X.ret1 rfl rfl rfl rfl (Res.tmp rfl) Pick.nil ⟨rfl, rfl⟩
            ·
              refine T.regionL (ll := [0, 1, 2, 3, 4, 5, 6, 7, 8, 9, 10, 11, 12, 13, 14, 15, 16, 17, 18]) rfl ?_
              refine TO.move rfl rfl rfl rfl ?_
              refine TO.bin rfl rfl rfl rfl rfl rfl ?_
              refine TO.move rfl rfl rfl rfl ?_
              refine TO.decB (t := 138) (b' := false) rfl (decide_eq_false g138) ?_
              refine TO.shut rfl rfl rfl rfl ?_
              refine TO.shut rfl rfl rfl rfl ?_
              refine TO.pickF rfl rfl rfl rfl rfl ?_
              refine TO.move rfl rfl rfl rfl ?_
              refine TO.shut rfl rfl rfl rfl ?_
              refine TO.shut rfl rfl rfl rfl ?_
              refine TO.shut rfl rfl rfl rfl ?_
              refine TO.pickF rfl rfl rfl rfl rfl ?_
              refine TO.move rfl rfl rfl rfl ?_
              refine TO.shut rfl rfl rfl rfl ?_
              refine TO.shut rfl rfl rfl rfl ?_
              refine TO.pickF rfl rfl rfl rfl rfl ?_
              refine TO.move rfl rfl rfl rfl ?_
              refine TO.shut rfl rfl rfl rfl ?_
              refine TO.pickF rfl rfl rfl rfl rfl ?_
              refine TO.assign rfl rfl rfl rfl ?_
              refine TO.done ?_
              refine X.seq_normal ?_
              refine T.trim (AllF.cons (t := 6) rfl AllF.nil) ?_
              refine T.ret ?_
              obtain rfl := ret1 H
              exact X.ret1 rfl rfl rfl rfl (Res.tmp rfl) Pick.nil ⟨rfl, rfl⟩
end Go.Proofs.Ytcdbemdogkmahaa.Ax
