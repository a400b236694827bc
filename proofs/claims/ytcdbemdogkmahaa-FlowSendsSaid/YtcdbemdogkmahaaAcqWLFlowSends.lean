/- What a call does is what its model says: acequialaw03.FlowSends, acequialaw03.hops. (Printed by sx.py.) -/
import Derived.Test.YtcdbemdogkmahaaAcqMLFlowSends
import Derived.Test.YtcdbemdogkmahaaAcqMaps
import Derived.Test.YtcdbemdogkmahaaAcqWS3
namespace Go.Proofs.Ytcdbemdogkmahaa.Ax
open Go Go.Acq Go.RowKit Go.Proofs
set_option linter.unusedVariables false
set_option linter.unusedSimpArgs false
set_option maxHeartbeats 8000000
theorem TWLFlowSends.a24 : aggT Try.prog 24 4 = true := by kernel_rfl
theorem TWLFlowSends.a28 : aggT Try.prog 28 3 = true := by kernel_rfl
theorem TWLFlowSends.a60 : aggT Try.prog 60 2 = true := by kernel_rfl
theorem TWLFlowSends.b60 : bytesT Try.prog 60 = some 16 := by kernel_rfl
theorem TWLFlowSends.c17 : callable Try.prog 17 = true := by kernel_rfl
theorem TWLFlowSends.c18 : callable Try.prog 18 = true := by kernel_rfl
theorem TWLFlowSends.c25 : callable Try.prog 25 = true := by kernel_rfl
theorem TWLFlowSends.c27 : callable Try.prog 27 = true := by kernel_rfl
theorem TWLFlowSends.c28 : callable Try.prog 28 = true := by kernel_rfl
theorem TWLFlowSends.c32 : callable Try.prog 32 = true := by kernel_rfl
theorem TWLFlowSends.c33 : callable Try.prog 33 = true := by kernel_rfl
theorem TWLFlowSends.c34 : callable Try.prog 34 = true := by kernel_rfl
theorem TWLFlowSends.c35 : callable Try.prog 35 = true := by kernel_rfl
theorem TWLFlowSends.f24_0 : fieldT Try.prog 24 0 = some 0 := by kernel_rfl
theorem TWLFlowSends.f24_3 : fieldT Try.prog 24 3 = some 3 := by kernel_rfl
theorem TWLFlowSends.f28_0 : fieldT Try.prog 28 0 = some 0 := by kernel_rfl
theorem TWLFlowSends.f28_1 : fieldT Try.prog 28 1 = some 1 := by kernel_rfl
theorem TWLFlowSends.f60_0 : fieldT Try.prog 60 0 = some 0 := by kernel_rfl
theorem TWLFlowSends.f60_1 : fieldT Try.prog 60 1 = some 1 := by kernel_rfl
theorem TWLFlowSends.i2 : intT Try.prog 2 = some .i64 := by kernel_rfl
theorem TWLFlowSends.i3 : intT Try.prog 3 = some .i64 := by kernel_rfl
theorem TWLFlowSends.i53 : intT Try.prog 53 = some .u64 := by kernel_rfl
theorem TWLFlowSends.l22 : sliceT Try.prog 22 = some 28 := by kernel_rfl
theorem TWLFlowSends.l25 : sliceT Try.prog 25 = some 2 := by kernel_rfl
theorem TWLFlowSends.l52 : sliceT Try.prog 52 = some 5 := by kernel_rfl
theorem TWLFlowSends.l54 : sliceT Try.prog 54 = some 60 := by kernel_rfl
theorem TWLFlowSends.n2 : sizeT Try.prog 2 = some 1 := by kernel_rfl
theorem TWLFlowSends.n24 : sizeT Try.prog 24 = some 4 := by kernel_rfl
theorem TWLFlowSends.n28 : sizeT Try.prog 28 = some 3 := by kernel_rfl
theorem TWLFlowSends.n5 : sizeT Try.prog 5 = some 1 := by kernel_rfl
theorem TWLFlowSends.n60 : sizeT Try.prog 60 = some 2 := by kernel_rfl
theorem TWLFlowSends.o2 : (Try.prog.underlying 2).isSome = true := by kernel_rfl
theorem TWLFlowSends.o5 : (Try.prog.underlying 5).isSome = true := by kernel_rfl
theorem TWLFlowSends.o53 : (Try.prog.underlying 53).isSome = true := by kernel_rfl
theorem TWLFlowSends.s2 : scalT Try.prog 2 = true := by kernel_rfl
theorem TWLFlowSends.s22 : scalT Try.prog 22 = true := by kernel_rfl
theorem TWLFlowSends.s3 : scalT Try.prog 3 = true := by kernel_rfl
theorem TWLFlowSends.s4 : scalT Try.prog 4 = true := by kernel_rfl
theorem TWLFlowSends.s5 : scalT Try.prog 5 = true := by kernel_rfl
theorem TWLFlowSends.z28 : zeroT Try.prog 28 = some (.agg #[.int .i64 0, .int .i64 0, .int .i64 0]) := by kernel_rfl
theorem TWLFlowSends.z60 : zeroT Try.prog 60 = some (.agg #[.int .i64 0, .bool false]) := by kernel_rfl
theorem TWLFlowSendsel54 : ElemT Try.prog 54 60 2 16 (.agg #[.int .i64 0, .bool false]) := ⟨TWLFlowSends.l54, TWLFlowSends.n60, TWLFlowSends.b60, TWLFlowSends.z60, rfl⟩
/-- acequia/acequialaw03.hops -/
theorem w_acequialaw03_hops {n0 : Net} {v1 : Int} {l2 : List Int} {n0_Arcs_b : Option Addr} {n0_Arcs_n : Nat} {n0_Arcs_c : Nat} {l2_b : Option Addr} {l2_n : Nat} {l2_c : Nat} (w : World) (h_n0_Arcs : RS w [] arcC 3 n0_Arcs_b n0_Arcs_n n0_Arcs_c n0.Arcs) (h_l2 : RS w [] (intC .u8) 1 l2_b l2_n l2_c l2) {r0 : List Hop} {r1 : Int} (H : m_acequialaw03_hops n0 v1 l2 = some (r0, r1)) : Fnc Try.prog 33 #[.agg #[.int .i64 n0.N, .int .i64 n0.S, .int .i64 n0.T, .slice n0_Arcs_b n0_Arcs_n n0_Arcs_c], .int .i64 v1, .slice l2_b l2_n l2_c] w [] (fun v N => ∃ (ob_0 : Option Nat) (n_0 : Nat) (c_0 : Nat) (j_0 : List Value), v = .tuple #[.slice (sb ob_0) n_0 c_0, .int .i64 r1] ∧ N = [(ob_0, .cells (arr hopC r0 j_0).toArray 60 (0, 0))] ∧ r0.length = n_0 ∧ n_0 ≤ c_0 ∧ j_0.length = (c_0 - n_0) * 2 ∧ (ob_0 = none → c_0 = 0)) := by
  unfold m_acequialaw03_hops at H
  refine Fnc.enter (vs := [.agg #[.int .i64 n0.N, .int .i64 n0.S, .int .i64 n0.T, .slice n0_Arcs_b n0_Arcs_n n0_Arcs_c], .int .i64 v1, .slice l2_b l2_n l2_c]) Try.func33 rfl rfl (Inv.refl w) ?_
  refine T.seq ?_
  refine T.regionL (ll := [0, 1, 2]) rfl ?_
  refine TO.boxA rfl rfl rfl rfl ?_; intro b1
  refine TO.assign rfl rfl rfl rfl ?_
  refine TO.assign rfl rfl rfl rfl ?_
  refine TO.done ?_
  refine X.seq_normal ?_
  refine T.seq ?_
  refine T.regionL (ll := [0]) rfl ?_
  refine TO.assign rfl rfl rfl rfl ?_
  refine TO.done ?_
  refine X.seq_normal ?_
  refine T.seq ?_
  refine T.seq ?_
  refine T.regionL (ll := [0, 1, 2]) rfl ?_
  refine TO.move rfl rfl rfl rfl ?_
  refine TO.lenX (xs := l2) h_l2.len rfl rfl rfl rfl rfl TWLFlowSends.l52 ?_
  refine TO.move rfl rfl rfl rfl ?_
  refine TO.done ?_
  refine X.seq_normal ?_
  refine T.meetSE6 (fun (v107 : Int) (out108 : List Hop) (n109 : Nat) (c110 : Nat) (ob111 : Option Nat) (j112 : List Value) => m_acequialaw03_hops_j6 v107 out108 = some (r0, r1) ∧ out108.length = n109 ∧ n109 ≤ c110 ∧ j112.length = (c110 - n109) * 2 ∧ (ob111 = none → c110 = 0)) (fun (v107 : Int) (out108 : List Hop) (n109 : Nat) (c110 : Nat) (ob111 : Option Nat) (j112 : List Value) => [(1, .int .i64 v107), (8, .slice (sb ob111) n109 c110)]) (fun (v107 : Int) (out108 : List Hop) (n109 : Nat) (c110 : Nat) (ob111 : Option Nat) (j112 : List Value) => [(ob111, .cells (arr hopC out108 j112).toArray 60 (0, 0))]) ?_ ?_
  ·
    refine T.block ?_
    obtain ⟨o_1, e_1, K_1⟩ := bd_some H
    refine T.loopE8 (fun (m_1 : Nat) (v3 : Int) (out4 : List Hop) (n5 : Nat) (c6 : Nat) (ob7 : Option Nat) (j8 : List Value) (x14 : Int) => loopM (fun s => m_acequialaw03_hops_s1 n0 l2 s.1 s.2.1 s.2.2) m_1 (v3, out4, x14) = some o_1 ∧ out4.length = n5 ∧ n5 ≤ c6 ∧ j8.length = (c6 - n5) * 2 ∧ (ob7 = none → c6 = 0)) (fun (m_1 : Nat) (v3 : Int) (out4 : List Hop) (n5 : Nat) (c6 : Nat) (ob7 : Option Nat) (j8 : List Value) (x14 : Int) => [(1, .int .i64 v3), (3, .pointer (some ⟨b1, 0, none⟩)), (8, .slice (sb ob7) n5 c6), (15, .slice l2_b l2_n l2_c), (16, .int .i64 (l2.length : Int)), (17, .int .i64 x14)]) (fun (m_1 : Nat) (v3 : Int) (out4 : List Hop) (n5 : Nat) (c6 : Nat) (ob7 : Option Nat) (j8 : List Value) (x14 : Int) => [(some b1, .cells #[.int .i64 n0.N, .int .i64 n0.S, .int .i64 n0.T, .slice n0_Arcs_b n0_Arcs_n n0_Arcs_c] 24 (0, 0)), (ob7, .cells (arr hopC out4 j8).toArray 60 (0, 0))]) (fun (m_1 : Nat) (v3 : Int) (out4 : List Hop) (n5 : Nat) (c6 : Nat) (ob7 : Option Nat) (j8 : List Value) (x14 : Int) => m_1) FUEL v1 ([]) 0 0 none ([]) 0 ⟨e_1, rfl, (Nat.le_refl _), (zeroJ 0 _), (fun _ => rfl)⟩ (AllF.cons rfl (AllF.cons rfl (AllF.cons rfl (AllF.cons rfl (AllF.cons rfl (AllF.cons rfl AllF.nil)))))) (Pick.cons (Take.head _ _) (Pick.none Pick.nil)) ?_
    rintro m_1 v3 out4 n5 c6 ob7 j8 x14 ⟨H, hn9, hc10, hj11, hz12⟩
    obtain ⟨n_1, r_1, rfl, H, C_1⟩ := loopM_some H
    have H : m_acequialaw03_hops_s1 n0 l2 v3 out4 x14 = some r_1 := H
    unfold m_acequialaw03_hops_s1 at H
    refine T.seq ?_
    refine T.regionL (ll := [0]) rfl ?_
    refine TO.bin rfl rfl rfl rfl rfl rfl ?_
    refine TO.done ?_
    refine X.seq_normal ?_
    refine T.seq ?_
    rcases ite_some H with ⟨g15, H⟩ | ⟨g15, H⟩
    ·
      refine T.condPT rfl g15 ?_
      refine T.skip ?_
      refine X.seq_normal ?_
      refine T.seq ?_
      refine T.meetSE6 (fun (v95 : Int) (out96 : List Hop) (n97 : Nat) (c98 : Nat) (ob99 : Option Nat) (j100 : List Value) => m_acequialaw03_hops_j5 x14 v95 out96 = some r_1 ∧ out96.length = n97 ∧ n97 ≤ c98 ∧ j100.length = (c98 - n97) * 2 ∧ (ob99 = none → c98 = 0)) (fun (v95 : Int) (out96 : List Hop) (n97 : Nat) (c98 : Nat) (ob99 : Option Nat) (j100 : List Value) => [(1, .int .i64 v95), (3, .pointer (some ⟨b1, 0, none⟩)), (8, .slice (sb ob99) n97 c98), (15, .slice l2_b l2_n l2_c), (16, .int .i64 (l2.length : Int)), (17, .int .i64 x14)]) (fun (v95 : Int) (out96 : List Hop) (n97 : Nat) (c98 : Nat) (ob99 : Option Nat) (j100 : List Value) => [(some b1, .cells #[.int .i64 n0.N, .int .i64 n0.S, .int .i64 n0.T, .slice n0_Arcs_b n0_Arcs_n n0_Arcs_c] 24 (0, 0)), (ob99, .cells (arr hopC out96 j100).toArray 60 (0, 0))]) ?_ ?_
      ·
        refine T.block ?_
        refine T.seq ?_
        obtain ⟨g16, H⟩ := gd_some H
        refine T.regionL (ll := [0, 1, 2]) rfl ?_
        refine TO.ixR h_l2 g16 rfl rfl rfl rfl rfl TWLFlowSends.l52 TWLFlowSends.n5 ?_
        refine TO.ldIR h_l2 g16 rfl rfl rfl rfl TWLFlowSends.s5 ?_
        refine TO.assign rfl rfl rfl rfl ?_
        refine TO.done ?_
        refine X.seq_normal ?_
        refine T.seq ?_
        refine T.regionL (ll := [0]) rfl ?_
        refine TO.assign rfl rfl rfl rfl ?_
        refine TO.done ?_
        refine X.seq_normal ?_
        refine T.seq ?_
        refine T.seq ?_
        refine T.regionL (ll := [0, 1, 2, 3]) rfl ?_
        refine TO.fieldAddr0 rfl rfl rfl rfl TWLFlowSends.f24_3 ?_
        refine TO.load1 rfl rfl rfl rfl TWLFlowSends.s22 (List.Mem.head _) rfl ?_
        refine TO.lenX (xs := n0.Arcs) h_n0_Arcs.len rfl rfl rfl rfl rfl TWLFlowSends.l22 ?_
        refine TO.move rfl rfl rfl rfl ?_
        refine TO.done ?_
        refine X.seq_normal ?_
        refine T.meetSE5 (fun (may66 : List Hop) (n67 : Nat) (c68 : Nat) (ob69 : Option Nat) (j70 : List Value) => m_acequialaw03_hops_j4 n0 l2 v3 out4 x14 may66 = some r_1 ∧ may66.length = n67 ∧ n67 ≤ c68 ∧ j70.length = (c68 - n67) * 2 ∧ (ob69 = none → c68 = 0)) (fun (may66 : List Hop) (n67 : Nat) (c68 : Nat) (ob69 : Option Nat) (j70 : List Value) => [(1, .int .i64 v3), (3, .pointer (some ⟨b1, 0, none⟩)), (8, .slice (sb ob7) n5 c6), (10, .int .u8 (l2.getD x14.toNat 0)), (11, .slice (sb ob69) n67 c68), (15, .slice l2_b l2_n l2_c), (16, .int .i64 (l2.length : Int)), (17, .int .i64 x14)]) (fun (may66 : List Hop) (n67 : Nat) (c68 : Nat) (ob69 : Option Nat) (j70 : List Value) => [(some b1, .cells #[.int .i64 n0.N, .int .i64 n0.S, .int .i64 n0.T, .slice n0_Arcs_b n0_Arcs_n n0_Arcs_c] 24 (0, 0)), (ob7, .cells (arr hopC out4 j8).toArray 60 (0, 0)), (ob69, .cells (arr hopC may66 j70).toArray 60 (0, 0))]) ?_ ?_
        ·
          refine T.block ?_
          obtain ⟨o_2, e_2, K_2⟩ := bd_some H
          refine T.loopE7 (fun (m_2 : Nat) (may17 : List Hop) (n18 : Nat) (c19 : Nat) (ob20 : Option Nat) (j21 : List Value) (x27 : Int) => loopM (fun s => m_acequialaw03_hops_s2 n0 v3 s.1 s.2) m_2 (may17, x27) = some o_2 ∧ may17.length = n18 ∧ n18 ≤ c19 ∧ j21.length = (c19 - n18) * 2 ∧ (ob20 = none → c19 = 0)) (fun (m_2 : Nat) (may17 : List Hop) (n18 : Nat) (c19 : Nat) (ob20 : Option Nat) (j21 : List Value) (x27 : Int) => [(1, .int .i64 v3), (3, .pointer (some ⟨b1, 0, none⟩)), (8, .slice (sb ob7) n5 c6), (10, .int .u8 (l2.getD x14.toNat 0)), (11, .slice (sb ob20) n18 c19), (15, .slice l2_b l2_n l2_c), (16, .int .i64 (l2.length : Int)), (17, .int .i64 x14), (22, .slice n0_Arcs_b n0_Arcs_n n0_Arcs_c), (23, .int .i64 (n0.Arcs.length : Int)), (24, .int .i64 x27)]) (fun (m_2 : Nat) (may17 : List Hop) (n18 : Nat) (c19 : Nat) (ob20 : Option Nat) (j21 : List Value) (x27 : Int) => [(some b1, .cells #[.int .i64 n0.N, .int .i64 n0.S, .int .i64 n0.T, .slice n0_Arcs_b n0_Arcs_n n0_Arcs_c] 24 (0, 0)), (ob7, .cells (arr hopC out4 j8).toArray 60 (0, 0)), (ob20, .cells (arr hopC may17 j21).toArray 60 (0, 0))]) (fun (m_2 : Nat) (may17 : List Hop) (n18 : Nat) (c19 : Nat) (ob20 : Option Nat) (j21 : List Value) (x27 : Int) => m_2) FUEL ([]) 0 0 none ([]) 0 ⟨e_2, rfl, (Nat.le_refl _), (zeroJ 0 _), (fun _ => rfl)⟩ (AllF.cons rfl (AllF.cons rfl (AllF.cons rfl (AllF.cons rfl (AllF.cons rfl (AllF.cons rfl (AllF.cons rfl (AllF.cons rfl (AllF.cons rfl (AllF.cons rfl (AllF.cons rfl AllF.nil))))))))))) (Pick.cons (Take.head _ _) (Pick.cons (Take.head _ _) (Pick.none Pick.nil))) ?_
          rintro m_2 may17 n18 c19 ob20 j21 x27 ⟨H, hn22, hc23, hj24, hz25⟩
          obtain ⟨n_2, r_2, rfl, H, C_2⟩ := loopM_some H
          have H : m_acequialaw03_hops_s2 n0 v3 may17 x27 = some r_2 := H
          unfold m_acequialaw03_hops_s2 at H
          refine T.seq ?_
          refine T.regionL (ll := [0]) rfl ?_
          refine TO.bin rfl rfl rfl rfl rfl rfl ?_
          refine TO.done ?_
          refine X.seq_normal ?_
          refine T.seq ?_
          rcases ite_some H with ⟨g28, H⟩ | ⟨g28, H⟩
          ·
            refine T.condPT rfl g28 ?_
            refine T.skip ?_
            refine X.seq_normal ?_
            refine T.seq ?_
            refine T.block ?_
            refine T.seq ?_
            obtain ⟨g29, H⟩ := gd_some H
            refine T.regionL (ll := [0, 1, 2, 3, 4, 5]) rfl ?_
            refine TO.move rfl rfl rfl rfl ?_
            refine TO.ixR h_n0_Arcs g29 rfl rfl rfl rfl rfl TWLFlowSends.l22 TWLFlowSends.n28 ?_
            refine TO.ldSR (cs := [.int .i64 ((n0.Arcs.getD x27.toNat default).fr), .int .i64 ((n0.Arcs.getD x27.toNat default).to), .int .i64 ((n0.Arcs.getD x27.toNat default).cap)]) default h_n0_Arcs g29 rfl rfl rfl rfl rfl TWLFlowSends.a28 ?_
            refine TO.allocA rfl rfl rfl TWLFlowSends.z28 ?_; intro b30
            refine TO.assign rfl rfl rfl rfl ?_
            refine TO.storeA rfl rfl rfl rfl (Take.head _ _) TWLFlowSends.n28 rfl rfl rfl ?_
            refine TO.done ?_
            refine X.seq_normal ?_
            refine T.seq ?_
            refine T.seq ?_
            refine T.regionL (ll := [0, 1, 2, 3]) rfl ?_
            refine TO.fieldAddr0 rfl rfl rfl rfl TWLFlowSends.f28_0 ?_
            refine TO.load1 rfl rfl rfl rfl TWLFlowSends.s3 (List.Mem.head _) rfl ?_
            refine TO.move rfl rfl rfl rfl ?_
            refine TO.bin rfl rfl rfl rfl rfl rfl ?_
            refine TO.done ?_
            refine X.seq_normal ?_
            refine T.meetSE5 (fun (may43 : List Hop) (n44 : Nat) (c45 : Nat) (ob46 : Option Nat) (j47 : List Value) => m_acequialaw03_hops_j3 n0 v3 x27 may43 = some r_2 ∧ may43.length = n44 ∧ n44 ≤ c45 ∧ j47.length = (c45 - n44) * 2 ∧ (ob46 = none → c45 = 0)) (fun (may43 : List Hop) (n44 : Nat) (c45 : Nat) (ob46 : Option Nat) (j47 : List Value) => [(1, .int .i64 v3), (3, .pointer (some ⟨b1, 0, none⟩)), (8, .slice (sb ob7) n5 c6), (10, .int .u8 (l2.getD x14.toNat 0)), (11, .slice (sb ob46) n44 c45), (12, .int .i64 x27), (13, .pointer (some ⟨b30, 0, none⟩)), (15, .slice l2_b l2_n l2_c), (16, .int .i64 (l2.length : Int)), (17, .int .i64 x14), (22, .slice n0_Arcs_b n0_Arcs_n n0_Arcs_c), (23, .int .i64 (n0.Arcs.length : Int)), (24, .int .i64 x27)]) (fun (may43 : List Hop) (n44 : Nat) (c45 : Nat) (ob46 : Option Nat) (j47 : List Value) => [(some b1, .cells #[.int .i64 n0.N, .int .i64 n0.S, .int .i64 n0.T, .slice n0_Arcs_b n0_Arcs_n n0_Arcs_c] 24 (0, 0)), (ob7, .cells (arr hopC out4 j8).toArray 60 (0, 0)), (ob46, .cells (arr hopC may43 j47).toArray 60 (0, 0)), (some b30, .cells #[.int .i64 ((n0.Arcs.getD x27.toNat default).fr), .int .i64 ((n0.Arcs.getD x27.toNat default).to), .int .i64 ((n0.Arcs.getD x27.toNat default).cap)] 28 (0, 0))]) ?_ ?_
            ·
              rcases ite_some H with ⟨g32, H⟩ | ⟨g32, H⟩
              ·
                refine T.condPT rfl g32 ?_
                obtain ⟨g35, H⟩ := gd_some H
                refine T.regionL (ll := [0, 1, 2, 3, 4, 5]) rfl ?_
                refine TO.move rfl rfl rfl rfl ?_
                refine TO.move rfl rfl rfl rfl ?_
                refine TO.buildS (t := 60) [.int .i64 0, .bool false] [0, 1] rfl rfl rfl rfl (by simp only [setAll, setCells, Value.cells, List.toList_toArray, List.getD_cons_zero, List.getD_cons_succ, List.set_cons_zero, List.set_cons_succ]; rfl) (by kernel_rfl) ?_
                refine TO.buildSliceS [.int .i64 0, .bool false] [0] rfl rfl rfl rfl TWLFlowSends.l54 TWLFlowSends.n60 TWLFlowSends.z60 rfl rfl (by simp only [setAll, setCells, Value.cells, List.toList_toArray, List.getD_cons_zero, List.getD_cons_succ, List.set_cons_zero, List.set_cons_succ]; rfl) (by kernel_rfl) ?_; intro b33
                refine TO.app (f := hopC) (s := 2) (xs := may17) (ob := ob20) (j := j21) (ys := [(Hop.mk x27 false)]) (fun _ => rfl) (fun _ => rfl) TWLFlowSendsel54 g35 rfl rfl rfl rfl rfl (Take.tail (Take.tail (Take.tail (Take.tail (Take.head _ _))))) hn22 hc23 hj24 hz25 (fun wc hwc => (hwc.rs (f := hopC) (s := 2) (xs := [(Hop.mk x27 false)]) (j := ([])) (fun _ => rfl) (List.Mem.head _) rfl (Nat.le_refl _) someZ)) ?_; intro ob36 c37 j38 hc39 hj40 hz41
                refine TO.assign rfl rfl rfl rfl ?_
                refine TO.done ?_
                exact X.metE5 (may17 ++ ([(Hop.mk x27 false)])) (n18 + 1) c37 ob36 j38 ⟨H, (lenApp hn22 rfl), hc39, hj40, hz41⟩ (AllF.cons rfl (AllF.cons rfl (AllF.cons rfl (AllF.cons rfl (AllF.cons rfl (AllF.cons rfl (AllF.cons rfl (AllF.cons rfl (AllF.cons rfl (AllF.cons rfl (AllF.cons rfl (AllF.cons rfl (AllF.cons rfl AllF.nil))))))))))))) (Pick.cons (Take.tail (Take.tail (Take.tail (Take.head _ _)))) (Pick.cons (Take.tail (Take.tail (Take.tail (Take.head _ _)))) (Pick.cons (Take.head _ _) (Pick.cons (Take.tail (Take.head _ _)) Pick.nil))))
              ·
                refine T.condPF rfl g32 ?_
                refine T.skip ?_
                exact X.metE5 may17 n18 c19 ob20 j21 ⟨H, hn22, hc23, hj24, hz25⟩ (AllF.cons rfl (AllF.cons rfl (AllF.cons rfl (AllF.cons rfl (AllF.cons rfl (AllF.cons rfl (AllF.cons rfl (AllF.cons rfl (AllF.cons rfl (AllF.cons rfl (AllF.cons rfl (AllF.cons rfl (AllF.cons rfl AllF.nil))))))))))))) (Pick.cons (Take.tail (Take.head _ _)) (Pick.cons (Take.tail (Take.head _ _)) (Pick.cons (Take.tail (Take.head _ _)) (Pick.cons (Take.head _ _) Pick.nil))))
            · rintro may43 n44 c45 ob46 j47 ⟨H, hn48, hc49, hj50, hz51⟩
              unfold m_acequialaw03_hops_j3 at H
              refine T.seq ?_
              refine T.regionL (ll := [0, 1, 2, 3]) rfl ?_
              refine TO.fieldAddr0 rfl rfl rfl rfl TWLFlowSends.f28_1 ?_
              refine TO.load1 rfl rfl rfl rfl TWLFlowSends.s3 (List.Mem.tail _ (List.Mem.tail _ (List.Mem.tail _ (List.Mem.head _)))) rfl ?_
              refine TO.move rfl rfl rfl rfl ?_
              refine TO.bin rfl rfl rfl rfl rfl rfl ?_
              refine TO.done ?_
              refine X.seq_normal ?_
              rcases ite_some H with ⟨g53, H⟩ | ⟨g53, H⟩
              ·
                refine T.condPT rfl g53 ?_
                obtain ⟨g56, H⟩ := gd_some H
                refine T.regionL (ll := [0, 1, 2, 3, 4, 5]) rfl ?_
                refine TO.move rfl rfl rfl rfl ?_
                refine TO.move rfl rfl rfl rfl ?_
                refine TO.buildS (t := 60) [.int .i64 0, .bool false] [0, 1] rfl rfl rfl rfl (by simp only [setAll, setCells, Value.cells, List.toList_toArray, List.getD_cons_zero, List.getD_cons_succ, List.set_cons_zero, List.set_cons_succ]; rfl) (by kernel_rfl) ?_
                refine TO.buildSliceS [.int .i64 0, .bool false] [0] rfl rfl rfl rfl TWLFlowSends.l54 TWLFlowSends.n60 TWLFlowSends.z60 rfl rfl (by simp only [setAll, setCells, Value.cells, List.toList_toArray, List.getD_cons_zero, List.getD_cons_succ, List.set_cons_zero, List.set_cons_succ]; rfl) (by kernel_rfl) ?_; intro b54
                refine TO.app (f := hopC) (s := 2) (xs := may43) (ob := ob46) (j := j47) (ys := [(Hop.mk x27 true)]) (fun _ => rfl) (fun _ => rfl) TWLFlowSendsel54 g56 rfl rfl rfl rfl rfl (Take.tail (Take.tail (Take.tail (Take.head _ _)))) hn48 hc49 hj50 hz51 (fun wc hwc => (hwc.rs (f := hopC) (s := 2) (xs := [(Hop.mk x27 true)]) (j := ([])) (fun _ => rfl) (List.Mem.head _) rfl (Nat.le_refl _) someZ)) ?_; intro ob57 c58 j59 hc60 hj61 hz62
                refine TO.assign rfl rfl rfl rfl ?_
                refine TO.done ?_
                refine X.block_normal ?_
                refine X.seq_normal ?_
                obtain ⟨g64, H⟩ := gd_some H
                refine T.regionL (ll := [0, 1]) rfl ?_
                refine TO.addG g64 rfl rfl rfl rfl rfl ?_
                refine TO.move rfl rfl rfl rfl ?_
                refine TO.done ?_
                have H := loop_next H C_2
                exact X.againE7 n_2 (may43 ++ ([(Hop.mk x27 true)])) (n44 + 1) c58 ob57 j59 (x27 + 1) ⟨H, (lenApp hn48 rfl), hc60, hj61, hz62⟩ (Nat.lt_succ_self _) (AllF.cons rfl (AllF.cons rfl (AllF.cons rfl (AllF.cons rfl (AllF.cons rfl (AllF.cons rfl (AllF.cons rfl (AllF.cons rfl (AllF.cons rfl (AllF.cons rfl (AllF.cons rfl AllF.nil))))))))))) (Pick.cons (Take.tail (Take.tail (Take.head _ _))) (Pick.cons (Take.tail (Take.tail (Take.head _ _))) (Pick.cons (Take.head _ _) Pick.nil)))
              ·
                refine T.condPF rfl g53 ?_
                refine T.skip ?_
                refine X.block_normal ?_
                refine X.seq_normal ?_
                obtain ⟨g65, H⟩ := gd_some H
                refine T.regionL (ll := [0, 1]) rfl ?_
                refine TO.addG g65 rfl rfl rfl rfl rfl ?_
                refine TO.move rfl rfl rfl rfl ?_
                refine TO.done ?_
                have H := loop_next H C_2
                exact X.againE7 n_2 may43 n44 c45 ob46 j47 (x27 + 1) ⟨H, hn48, hc49, hj50, hz51⟩ (Nat.lt_succ_self _) (AllF.cons rfl (AllF.cons rfl (AllF.cons rfl (AllF.cons rfl (AllF.cons rfl (AllF.cons rfl (AllF.cons rfl (AllF.cons rfl (AllF.cons rfl (AllF.cons rfl (AllF.cons rfl AllF.nil))))))))))) (Pick.cons (Take.head _ _) (Pick.cons (Take.head _ _) (Pick.cons (Take.head _ _) Pick.nil)))
          ·
            refine T.condPF rfl g28 ?_
            refine T.exit ?_
            refine X.then_exit ?_
            have H := loop_exitE H C_2 ▸ K_2
            refine X.then_exit ?_
            refine X.block_here ?_
            exact X.metE5 may17 n18 c19 ob20 j21 ⟨H, hn22, hc23, hj24, hz25⟩ (AllF.cons rfl (AllF.cons rfl (AllF.cons rfl (AllF.cons rfl (AllF.cons rfl (AllF.cons rfl (AllF.cons rfl (AllF.cons rfl AllF.nil)))))))) (Pick.cons (Take.head _ _) (Pick.cons (Take.head _ _) (Pick.cons (Take.head _ _) Pick.nil)))
        · rintro may66 n67 c68 ob69 j70 ⟨H, hn71, hc72, hj73, hz74⟩
          unfold m_acequialaw03_hops_j4 at H
          refine T.seq ?_
          refine T.seq ?_
          refine T.regionL (ll := [0, 1, 2]) rfl ?_
          refine TO.move rfl rfl rfl rfl ?_
          refine TO.lenX (xs := may66) hn71 rfl rfl rfl rfl rfl TWLFlowSends.l54 ?_
          refine TO.bin rfl rfl rfl rfl rfl rfl ?_
          refine TO.done ?_
          refine X.seq_normal ?_
          rcases ite_some H with ⟨g76, H⟩ | ⟨g76, H⟩
          ·
            refine T.condPT rfl g76 ?_
            refine T.exit ?_
            refine X.then_exit ?_
            refine X.block_exit rfl ?_
            refine X.then_exit ?_
            have H := loop_exitE H C_1 ▸ K_1
            refine X.then_exit ?_
            refine X.block_here ?_
            exact X.metE6 v3 out4 n5 c6 ob7 j8 ⟨H, hn9, hc10, hj11, hz12⟩ (AllF.cons rfl (AllF.cons rfl AllF.nil)) (Pick.cons (Take.tail (Take.head _ _)) Pick.nil)
          ·
            refine T.condPF rfl g76 ?_
            refine T.skip ?_
            refine X.seq_normal ?_
            refine T.seq ?_
            obtain ⟨g77, H⟩ := gd_some H
            obtain ⟨g78, H⟩ := gd_some H
            obtain ⟨g79, H⟩ := gd_some H
            refine T.regionL (ll := [0, 1, 2, 3, 4, 5, 6, 7, 8, 9]) rfl ?_
            refine TO.move rfl rfl rfl rfl ?_
            refine TO.move rfl rfl rfl rfl ?_
            refine TO.convIn rfl rfl rfl rfl TWLFlowSends.o5 TWLFlowSends.i3 (wrap_i64_of g77.1 g77.2) ?_
            refine TO.move rfl rfl rfl rfl ?_
            refine TO.lenX (xs := may66) hn71 rfl rfl rfl rfl rfl TWLFlowSends.l54 ?_
            refine TO.rem rfl rfl rfl rfl rfl g78 ?_
            refine TO.ixV hz74 hc72 hn71 g79 rfl rfl rfl rfl rfl TWLFlowSends.l54 TWLFlowSends.n60 ?_
            refine TO.ldSV (f := hopC) (cs := [.int .i64 ((may66.getD ((l2.getD x14.toNat 0).tmod (may66.length : Int)).toNat default).Arc), .bool ((may66.getD ((l2.getD x14.toNat 0).tmod (may66.length : Int)).toNat default).Back)]) default (fun _ => rfl) hz74 hc72 hn71 g79 rfl rfl rfl rfl rfl TWLFlowSends.a60 (List.Mem.tail _ (List.Mem.tail _ (List.Mem.head _))) ?_
            refine TO.allocA rfl rfl rfl TWLFlowSends.z60 ?_; intro b80
            refine TO.storeA rfl rfl rfl rfl (Take.head _ _) TWLFlowSends.n60 rfl rfl rfl ?_
            refine TO.done ?_
            refine X.seq_normal ?_
            refine T.seq ?_
            obtain ⟨g84, H⟩ := gd_some H
            refine T.regionL (ll := [0, 1, 2, 3, 4]) rfl ?_
            refine TO.move rfl rfl rfl rfl ?_
            refine TO.loadA rfl rfl rfl rfl TWLFlowSends.a60 (List.Mem.head _) rfl ?_
            refine TO.buildSliceS [.int .i64 0, .bool false] [0] rfl rfl rfl rfl TWLFlowSends.l54 TWLFlowSends.n60 TWLFlowSends.z60 rfl rfl (by simp only [setAll, setCells, Value.cells, List.toList_toArray, List.getD_cons_zero, List.getD_cons_succ, List.set_cons_zero, List.set_cons_succ]; rfl) (by kernel_rfl) ?_; intro b82
            refine TO.app (f := hopC) (s := 2) (xs := out4) (ob := ob7) (j := j8) (ys := [(may66.getD ((l2.getD x14.toNat 0).tmod (may66.length : Int)).toNat default)]) (fun _ => rfl) (fun _ => rfl) TWLFlowSendsel54 g84 rfl rfl rfl rfl rfl (Take.tail (Take.tail (Take.tail (Take.head _ _)))) hn9 hc10 hj11 hz12 (fun wc hwc => (hwc.rs (f := hopC) (s := 2) (xs := [(may66.getD ((l2.getD x14.toNat 0).tmod (may66.length : Int)).toNat default)]) (j := ([])) (fun _ => rfl) (List.Mem.head _) rfl (Nat.le_refl _) someZ)) ?_; intro ob85 c86 j87 hc88 hj89 hz90
            refine TO.assign rfl rfl rfl rfl ?_
            refine TO.done ?_
            refine X.seq_normal ?_
            refine T.seq ?_
            obtain ⟨g92, H⟩ := gd_some H
            refine T.regionL (ll := [0, 1, 2, 3, 4, 5, 6, 7]) rfl ?_
            refine TO.fieldAddr0 rfl rfl rfl rfl TWLFlowSends.f24_3 ?_
            refine TO.load1 rfl rfl rfl rfl TWLFlowSends.s22 (List.Mem.tail _ (List.Mem.tail _ (List.Mem.tail _ (List.Mem.head _)))) rfl ?_
            refine TO.fieldAddr0 rfl rfl rfl rfl TWLFlowSends.f60_0 ?_
            refine TO.load1 rfl rfl rfl rfl TWLFlowSends.s3 (List.Mem.tail _ (List.Mem.tail _ (List.Mem.head _))) rfl ?_
            refine TO.ixR h_n0_Arcs g92 rfl rfl rfl rfl rfl TWLFlowSends.l22 TWLFlowSends.n28 ?_
            refine TO.faR rfl rfl rfl rfl TWLFlowSends.f28_1 ?_
            refine TO.ldFR (v := .int .i64 ((n0.Arcs.getD ((may66.getD ((l2.getD x14.toNat 0).tmod (may66.length : Int)).toNat default).Arc).toNat default).to)) default h_n0_Arcs g92 rfl rfl rfl rfl rfl TWLFlowSends.s3 ?_
            refine TO.assign rfl rfl rfl rfl ?_
            refine TO.done ?_
            refine X.seq_normal ?_
            refine T.seq ?_
            refine T.regionL (ll := [0, 1]) rfl ?_
            refine TO.fieldAddr0 rfl rfl rfl rfl TWLFlowSends.f60_1 ?_
            refine TO.load1 rfl rfl rfl rfl TWLFlowSends.s4 (List.Mem.tail _ (List.Mem.tail _ (List.Mem.head _))) rfl ?_
            refine TO.done ?_
            refine X.seq_normal ?_
            rcases ite_some H with ⟨g93, H⟩ | ⟨g93, H⟩
            ·
              refine T.condT rfl g93 ?_
              obtain ⟨g94, H⟩ := gd_some H
              refine T.regionL (ll := [0, 1, 2, 3, 4, 5, 6, 7]) rfl ?_
              refine TO.fieldAddr0 rfl rfl rfl rfl TWLFlowSends.f24_3 ?_
              refine TO.load1 rfl rfl rfl rfl TWLFlowSends.s22 (List.Mem.tail _ (List.Mem.tail _ (List.Mem.tail _ (List.Mem.head _)))) rfl ?_
              refine TO.fieldAddr0 rfl rfl rfl rfl TWLFlowSends.f60_0 ?_
              refine TO.load1 rfl rfl rfl rfl TWLFlowSends.s3 (List.Mem.tail _ (List.Mem.tail _ (List.Mem.head _))) rfl ?_
              refine TO.ixR h_n0_Arcs g94 rfl rfl rfl rfl rfl TWLFlowSends.l22 TWLFlowSends.n28 ?_
              refine TO.faR rfl rfl rfl rfl TWLFlowSends.f28_0 ?_
              refine TO.ldFR (v := .int .i64 ((n0.Arcs.getD ((may66.getD ((l2.getD x14.toNat 0).tmod (may66.length : Int)).toNat default).Arc).toNat default).fr)) default h_n0_Arcs g94 rfl rfl rfl rfl rfl TWLFlowSends.s3 ?_
              refine TO.assign rfl rfl rfl rfl ?_
              refine TO.done ?_
              refine X.block_normal ?_
              exact X.metE6 ((n0.Arcs.getD ((may66.getD ((l2.getD x14.toNat 0).tmod (may66.length : Int)).toNat default).Arc).toNat default).fr) (out4 ++ ([(may66.getD ((l2.getD x14.toNat 0).tmod (may66.length : Int)).toNat default)])) (n5 + 1) c86 ob85 j87 ⟨H, (lenApp hn9 rfl), hc88, hj89, hz90⟩ (AllF.cons rfl (AllF.cons rfl (AllF.cons rfl (AllF.cons rfl (AllF.cons rfl (AllF.cons rfl AllF.nil)))))) (Pick.cons (Take.tail (Take.tail (Take.tail (Take.head _ _)))) (Pick.cons (Take.head _ _) Pick.nil))
            ·
              refine T.condF rfl (Bool.eq_false_iff.2 g93) ?_
              refine T.skip ?_
              refine X.block_normal ?_
              exact X.metE6 ((n0.Arcs.getD ((may66.getD ((l2.getD x14.toNat 0).tmod (may66.length : Int)).toNat default).Arc).toNat default).to) (out4 ++ ([(may66.getD ((l2.getD x14.toNat 0).tmod (may66.length : Int)).toNat default)])) (n5 + 1) c86 ob85 j87 ⟨H, (lenApp hn9 rfl), hc88, hj89, hz90⟩ (AllF.cons rfl (AllF.cons rfl (AllF.cons rfl (AllF.cons rfl (AllF.cons rfl (AllF.cons rfl AllF.nil)))))) (Pick.cons (Take.tail (Take.tail (Take.tail (Take.head _ _)))) (Pick.cons (Take.head _ _) Pick.nil))
      · rintro v95 out96 n97 c98 ob99 j100 ⟨H, hn101, hc102, hj103, hz104⟩
        unfold m_acequialaw03_hops_j5 at H
        obtain ⟨g106, H⟩ := gd_some H
        refine T.regionL (ll := [0, 1]) rfl ?_
        refine TO.addG g106 rfl rfl rfl rfl rfl ?_
        refine TO.move rfl rfl rfl rfl ?_
        refine TO.done ?_
        have H := loop_next H C_1
        exact X.againE8 n_1 v95 out96 n97 c98 ob99 j100 (x14 + 1) ⟨H, hn101, hc102, hj103, hz104⟩ (Nat.lt_succ_self _) (AllF.cons rfl (AllF.cons rfl (AllF.cons rfl (AllF.cons rfl (AllF.cons rfl (AllF.cons rfl AllF.nil)))))) (Pick.cons (Take.head _ _) (Pick.cons (Take.head _ _) Pick.nil))
    ·
      refine T.condPF rfl g15 ?_
      refine T.exit ?_
      refine X.then_exit ?_
      have H := loop_exitE H C_1 ▸ K_1
      refine X.then_exit ?_
      refine X.block_here ?_
      exact X.metE6 v3 out4 n5 c6 ob7 j8 ⟨H, hn9, hc10, hj11, hz12⟩ (AllF.cons rfl (AllF.cons rfl AllF.nil)) (Pick.cons (Take.tail (Take.head _ _)) Pick.nil)
  · rintro v107 out108 n109 c110 ob111 j112 ⟨H, hn113, hc114, hj115, hz116⟩
    unfold m_acequialaw03_hops_j6 at H
    refine T.seq ?_
    refine T.regionL (ll := [0, 1, 2, 3]) rfl ?_
    refine TO.move rfl rfl rfl rfl ?_
    refine TO.move rfl rfl rfl rfl ?_
    refine TO.assign rfl rfl rfl rfl ?_
    refine TO.assign rfl rfl rfl rfl ?_
    refine TO.done ?_
    refine X.seq_normal ?_
    refine T.ret ?_
    obtain ⟨rfl, rfl⟩ := ret2 H
    exact X.ret2 rfl rfl rfl rfl (Res.tmp rfl) (Res.tmp rfl) (Pick.cons (Take.head _ _) Pick.nil) ⟨ob111, n109, c110, j112, rfl, rfl, hn113, hc114, hj115, hz116⟩
/-- acequia/acequialaw03.FlowSends -/
theorem w_acequialaw03_FlowSends {n0 : Net} {l1 : List Int} {from2 : Int} {moves3 : List Int} {d4 : Int} {n0_Arcs_b : Option Addr} {n0_Arcs_n : Nat} {n0_Arcs_c : Nat} {l1_b : Option Addr} {l1_n : Nat} {l1_c : Nat} {moves3_b : Option Addr} {moves3_n : Nat} {moves3_c : Nat} (w : World) (h_n0_Arcs : RS w [] arcC 3 n0_Arcs_b n0_Arcs_n n0_Arcs_c n0.Arcs) (h_l1 : RS w [] (intC .i64) 1 l1_b l1_n l1_c l1) (h_moves3 : RS w [] (intC .u8) 1 moves3_b moves3_n moves3_c moves3) {r0 : Bool} (H : m_acequialaw03_FlowSends n0 l1 from2 moves3 d4 = some r0) : Fnc Try.prog 7 #[.agg #[.int .i64 n0.N, .int .i64 n0.S, .int .i64 n0.T, .slice n0_Arcs_b n0_Arcs_n n0_Arcs_c], .slice l1_b l1_n l1_c, .int .u8 from2, .slice moves3_b moves3_n moves3_c, .int .u64 d4] w [] (fun v N => v = .bool r0 ∧ N = []) := by
  unfold m_acequialaw03_FlowSends at H
  refine Fnc.enter (vs := [.agg #[.int .i64 n0.N, .int .i64 n0.S, .int .i64 n0.T, .slice n0_Arcs_b n0_Arcs_n n0_Arcs_c], .slice l1_b l1_n l1_c, .int .u8 from2, .slice moves3_b moves3_n moves3_c, .int .u64 d4]) Try.func7 rfl rfl (Inv.refl w) ?_
  refine T.seq ?_
  refine T.regionL (ll := [0, 1]) rfl ?_
  refine TO.boxA rfl rfl rfl rfl ?_; intro b1
  refine TO.assign rfl rfl rfl rfl ?_
  refine TO.done ?_
  refine X.seq_normal ?_
  refine T.seq ?_
  obtain ⟨r3, e4, H⟩ := bd_some H
  refine T.regionL (ll := [0, 1, 2]) rfl ?_
  refine TO.loadA rfl rfl rfl rfl TWLFlowSends.a24 (List.Mem.head _) rfl ?_
  refine TO.callX TWLFlowSends.c17 rfl rfl rfl rfl (fun wc hwc => w_acequialow_Some (n0 := n0) (verts1 := 40) (arcs2 := 80) wc (h_n0_Arcs.mono hwc) e4) ?_
  rintro _ _ ⟨ob5, n6, c7, j8, rfl, rfl, hn9, hc10, hj11, hz12⟩
  refine TO.storeA rfl rfl rfl rfl (Take.tail (Take.head _ _)) TWLFlowSends.n24 rfl rfl rfl ?_
  refine TO.done ?_
  refine X.seq_normal ?_
  refine T.seq ?_
  obtain ⟨r14, e15, H⟩ := bd_some H
  refine T.regionL (ll := [0, 1, 2, 3]) rfl ?_
  refine TO.loadA rfl rfl rfl rfl TWLFlowSends.a24 (List.Mem.head _) rfl ?_
  refine TO.move rfl rfl rfl rfl ?_
  refine TO.callX TWLFlowSends.c18 rfl rfl rfl rfl (fun wc hwc => w_acequialow_Within (n0 := r3) (l1 := l1) wc (hwc.rs (f := arcC) (s := 3) (xs := r3.Arcs) (j := j8) (fun _ => rfl) (List.Mem.tail _ (List.Mem.head _)) hn9 hc10 hz12) (h_l1.mono hwc) e15) ?_
  rintro _ _ ⟨ob16, n17, c18, j19, rfl, rfl, hn20, hc21, hj22, hz23⟩
  refine TO.assign rfl rfl rfl rfl ?_
  refine TO.done ?_
  refine X.seq_normal ?_
  refine T.seq ?_
  obtain ⟨g25, H⟩ := gd_some H
  obtain ⟨g26, H⟩ := gd_some H
  refine T.regionL (ll := [0, 1, 2, 3, 4, 5]) rfl ?_
  refine TO.move rfl rfl rfl rfl ?_
  refine TO.convIn rfl rfl rfl rfl TWLFlowSends.o5 TWLFlowSends.i3 (wrap_i64_of g25.1 g25.2) ?_
  refine TO.fieldAddr0 rfl rfl rfl rfl TWLFlowSends.f24_0 ?_
  refine TO.load1 rfl rfl rfl rfl TWLFlowSends.s3 (List.Mem.tail _ (List.Mem.head _)) rfl ?_
  refine TO.rem rfl rfl rfl rfl rfl g26 ?_
  refine TO.assign rfl rfl rfl rfl ?_
  refine TO.done ?_
  refine X.seq_normal ?_
  refine T.seq ?_
  obtain ⟨g27, H⟩ := gd_some H
  obtain ⟨⟨r28, r29⟩, e30, H⟩ := bd_some H
  apply T.drawL [⟨[], false, relV _⟩, ⟨[], false, relV _⟩, ⟨[], false, relV _⟩, ⟨[], false, relV _⟩, ⟨[3], false, relV _⟩, ⟨[4], false, relV _⟩, ⟨[2, 5], false, relV _⟩, ⟨[0, 1, 6], false, fun _ v e => ∃ (ob31 : Option Nat) (n32 : Nat) (c33 : Nat) (j34 : List Value), v = .tuple #[.slice (sb ob31) n32 c33, .int .i64 r29] ∧ e = [(ob31, .cells (arr hopC r28 j34).toArray 60 (0, 0))] ∧ r28.length = n32 ∧ n32 ≤ c33 ∧ j34.length = (c33 - n32) * 2 ∧ (ob31 = none → c33 = 0)⟩, ⟨[7], false, fun vl v e => v = (vl.getD 0 undef) ∧ e = []⟩, ⟨[7, 8], false, fun vl v e => v = (tupAt (vl.getD 1 undef) 0) ∧ e = []⟩, ⟨[7, 8], false, relV _⟩, ⟨[7, 8, 9], false, fun vl v e => v = (vl.getD 2 undef) ∧ e = []⟩] [43, 44, 45, 46, 47, 48, 49, 50, 42, 51, 52, 13] 12 (HRk [[]]) [[]] [] [(ob16, .cells (arr (intC .i64) r14 j19).toArray 2 (0, 0)), (some b1, .cells #[.int .i64 r3.N, .int .i64 r3.S, .int .i64 r3.T, .slice (sb ob5) n6 c7] 24 (0, 0)), (ob5, .cells (arr arcC r3.Arcs j8).toArray 28 (0, 0))]
  · exact mixed
  · exact rfl
  · kernel_rfl
  · kernel_rfl
  · kernel_rfl
  · exact rfl
  · exact rfl
  · exact rfl
  · exact rfl
  · exact (by repeat (first | exact Pick.refl _ | exact Pick.nil | apply Pick.none | refine Pick.cons (by repeat (first | exact Take.head _ _ | apply Take.tail)) ?_))
  · refine ⟨?_, ?_, ?_, ?_, ?_, ?_, ?_, ?_, ?_, ?_, ?_, ?_, trivial⟩
    · rintro vs es Es Hx -
      refine TO.reenv (D := []) rfl ?_
      refine TO.loadA rfl rfl rfl rfl TWLFlowSends.a24 (List.Mem.tail _ (List.Mem.head _)) rfl ?_
      refine TO.done ?_; exact X.obQ rfl ⟨rfl, rfl⟩ (Pick.refl _) rfl
    · rintro vs es Es Hx -
      refine TO.reenv (D := []) rfl ?_
      refine TO.move rfl rfl rfl rfl ?_
      refine TO.done ?_; exact X.obQ rfl ⟨rfl, rfl⟩ (Pick.refl _) rfl
    · rintro vs es Es Hx -
      refine TO.reenv (D := []) rfl ?_
      refine TO.move rfl rfl rfl rfl ?_
      refine TO.done ?_; exact X.obQ rfl ⟨rfl, rfl⟩ (Pick.refl _) rfl
    · rintro vs es Es Hx -
      refine TO.reenv (D := []) rfl ?_
      refine TO.move rfl rfl rfl rfl ?_
      refine TO.done ?_; exact X.obQ rfl ⟨rfl, rfl⟩ (Pick.refl _) rfl
    · rintro vs es Es Hx ⟨⟨h_3, e_3⟩, -⟩
      refine TO.reenv (D := [(46, vs 3)]) rfl ?_; rw [h_3]
      refine TO.lenX (xs := moves3) h_moves3.len rfl rfl rfl rfl rfl TWLFlowSends.l52 ?_
      refine TO.done ?_; exact X.obQ rfl ⟨rfl, rfl⟩ (Pick.refl _) (by show [(46, vs 3)] = _; rw [h_3])
    · rintro vs es Es Hx ⟨⟨h_4, e_4⟩, -⟩
      refine TO.reenv (D := [(47, vs 4)]) rfl ?_; rw [h_4]
      refine TO.min2 rfl rfl rfl rfl rfl ?_
      refine TO.done ?_; exact X.obQ rfl ⟨rfl, rfl⟩ (Pick.refl _) (by show [(47, vs 4)] = _; rw [h_4])
    · rintro vs es Es Hx ⟨⟨h_2, e_2⟩, ⟨h_5, e_5⟩, -⟩
      refine TO.reenv (D := [(45, vs 2), (48, vs 5)]) rfl ?_; rw [h_2, h_5]
      refine TO.slH (xs := moves3) h_moves3.len h_moves3.cap g27 rfl rfl rfl rfl rfl TWLFlowSends.l52 TWLFlowSends.n5 ?_
      refine TO.done ?_; exact X.obQ rfl ⟨rfl, rfl⟩ (Pick.refl _) (by show [(45, vs 2), (48, vs 5)] = _; rw [h_2, h_5])
    · rintro vs es Es Hx ⟨⟨h_0, e_0⟩, ⟨h_1, e_1⟩, ⟨h_6, e_6⟩, -⟩
      refine TO.reenv (D := [(43, vs 0), (44, vs 1), (49, vs 6)]) rfl ?_; rw [h_0, h_1, h_6]
      refine TO.callX TWLFlowSends.c33 rfl rfl rfl rfl (fun wc hwc => w_acequialaw03_hops (n0 := r3) (v1 := (from2.tmod r3.N)) (l2 := (moves3.take (min (moves3.length : Int) 30).toNat)) wc (hwc.rs (f := arcC) (s := 3) (xs := r3.Arcs) (j := j8) (fun _ => rfl) (List.Mem.tail _ (List.Mem.tail _ (List.Mem.head _))) hn9 hc10 hz12) ((RS.take h_moves3 g27).mono hwc) e30) ?_
      rintro _ _ ⟨ob31, n32, c33, j34, rfl, rfl, hn35, hc36, hj37, hz38⟩
      refine TO.done ?_; exact X.obQ rfl ⟨ob31, n32, c33, j34, rfl, rfl, hn35, hc36, hj37, hz38⟩ (by repeat (first | exact Pick.refl _ | exact Pick.nil | apply Pick.none | refine Pick.cons (by repeat (first | exact Take.head _ _ | apply Take.tail)) ?_)) (by show [(43, vs 0), (44, vs 1), (49, vs 6)] = _; rw [h_0, h_1, h_6])
    · rintro vs es Es Hx ⟨⟨ob31, n32, c33, j34, h_7, e_7, hn35, hc36, hj37, hz38⟩, -⟩
      refine TO.reenv (D := [(50, vs 7)]) rfl ?_; rw [h_7]
      refine TO.reheap (H := [(ob16, .cells (arr (intC .i64) r14 j19).toArray 2 (0, 0)), (some b1, .cells #[.int .i64 r3.N, .int .i64 r3.S, .int .i64 r3.T, .slice (sb ob5) n6 c7] 24 (0, 0)), (ob5, .cells (arr arcC r3.Arcs j8).toArray 28 (0, 0))] ++ ([(ob31, .cells (arr hopC r28 j34).toArray 60 (0, 0))] ++ Hx)) (by show _ ++ ((es 7 ++ ([])) ++ _) = _; rw [e_7]; rfl) ?_
      refine TO.move rfl rfl rfl rfl ?_
      refine TO.done ?_; exact X.obQ rfl ⟨by show _ = vs 7; rw [h_7] <;> rfl, rfl⟩ (by show Pick (_ ++ (_ ++ ((es 7 ++ ([])) ++ _))) _; rw [e_7]; exact (by repeat (first | exact Pick.refl _ | exact Pick.nil | apply Pick.none | refine Pick.cons (by repeat (first | exact Take.head _ _ | apply Take.tail)) ?_))) (by show [(50, vs 7)] = _; rw [h_7])
    · rintro vs es Es Hx ⟨⟨ob31, n32, c33, j34, h_7, e_7, hn35, hc36, hj37, hz38⟩, ⟨q_8, e_8⟩, -⟩
      have h_8 : vs 8 = .tuple #[.slice (sb ob31) n32 c33, .int .i64 r29] := by refine Eq.trans q_8 ?_; show vs 7 = _; rw [h_7] <;> rfl
      refine TO.reenv (D := [(50, vs 7), (42, vs 8)]) rfl ?_; rw [h_7, h_8]
      refine TO.reheap (H := [(ob16, .cells (arr (intC .i64) r14 j19).toArray 2 (0, 0)), (some b1, .cells #[.int .i64 r3.N, .int .i64 r3.S, .int .i64 r3.T, .slice (sb ob5) n6 c7] 24 (0, 0)), (ob5, .cells (arr arcC r3.Arcs j8).toArray 28 (0, 0))] ++ ([(ob31, .cells (arr hopC r28 j34).toArray 60 (0, 0))] ++ Hx)) (by show _ ++ ((es 7 ++ (es 8 ++ ([]))) ++ _) = _; rw [e_7, e_8]; rfl) ?_
      refine TO.extract rfl rfl rfl rfl rfl ?_
      refine TO.done ?_; exact X.obQ rfl ⟨by show _ = (tupAt (vs 8) 0); rw [h_8] <;> rfl, rfl⟩ (by show Pick (_ ++ (_ ++ ((es 7 ++ (es 8 ++ ([]))) ++ _))) _; rw [e_7, e_8]; exact (by repeat (first | exact Pick.refl _ | exact Pick.nil | apply Pick.none | refine Pick.cons (by repeat (first | exact Take.head _ _ | apply Take.tail)) ?_))) (by show [(50, vs 7), (42, vs 8)] = _; rw [h_7, h_8])
    · rintro vs es Es Hx ⟨⟨ob31, n32, c33, j34, h_7, e_7, hn35, hc36, hj37, hz38⟩, ⟨q_8, e_8⟩, -⟩
      have h_8 : vs 8 = .tuple #[.slice (sb ob31) n32 c33, .int .i64 r29] := by refine Eq.trans q_8 ?_; show vs 7 = _; rw [h_7] <;> rfl
      refine TO.reenv (D := [(50, vs 7), (42, vs 8)]) rfl ?_; rw [h_7, h_8]
      refine TO.reheap (H := [(ob16, .cells (arr (intC .i64) r14 j19).toArray 2 (0, 0)), (some b1, .cells #[.int .i64 r3.N, .int .i64 r3.S, .int .i64 r3.T, .slice (sb ob5) n6 c7] 24 (0, 0)), (ob5, .cells (arr arcC r3.Arcs j8).toArray 28 (0, 0))] ++ ([(ob31, .cells (arr hopC r28 j34).toArray 60 (0, 0))] ++ Hx)) (by show _ ++ ((es 7 ++ (es 8 ++ ([]))) ++ _) = _; rw [e_7, e_8]; rfl) ?_
      refine TO.extract rfl rfl rfl rfl rfl ?_
      refine TO.done ?_; exact X.obQ rfl ⟨rfl, rfl⟩ (by show Pick (_ ++ (_ ++ ((es 7 ++ (es 8 ++ ([]))) ++ _))) _; rw [e_7, e_8]; exact (by repeat (first | exact Pick.refl _ | exact Pick.nil | apply Pick.none | refine Pick.cons (by repeat (first | exact Take.head _ _ | apply Take.tail)) ?_))) (by show [(50, vs 7), (42, vs 8)] = _; rw [h_7, h_8])
    · rintro vs es Es Hx ⟨⟨ob31, n32, c33, j34, h_7, e_7, hn35, hc36, hj37, hz38⟩, ⟨q_8, e_8⟩, ⟨q_9, e_9⟩, -⟩
      have h_8 : vs 8 = .tuple #[.slice (sb ob31) n32 c33, .int .i64 r29] := by refine Eq.trans q_8 ?_; show vs 7 = _; rw [h_7] <;> rfl
      have h_9 : vs 9 = .slice (sb ob31) n32 c33 := by refine Eq.trans q_9 ?_; show (tupAt (vs 8) 0) = _; rw [h_8] <;> rfl
      refine TO.reenv (D := [(50, vs 7), (42, vs 8), (51, vs 9)]) rfl ?_; rw [h_7, h_8, h_9]
      refine TO.reheap (H := [(ob16, .cells (arr (intC .i64) r14 j19).toArray 2 (0, 0)), (some b1, .cells #[.int .i64 r3.N, .int .i64 r3.S, .int .i64 r3.T, .slice (sb ob5) n6 c7] 24 (0, 0)), (ob5, .cells (arr arcC r3.Arcs j8).toArray 28 (0, 0))] ++ ([(ob31, .cells (arr hopC r28 j34).toArray 60 (0, 0))] ++ Hx)) (by show _ ++ ((es 7 ++ (es 8 ++ (es 9 ++ ([])))) ++ _) = _; rw [e_7, e_8, e_9]; rfl) ?_
      refine TO.assign rfl rfl rfl rfl ?_
      refine TO.done ?_; exact X.obQ rfl ⟨by show _ = vs 9; rw [h_9] <;> rfl, rfl⟩ (by show Pick (_ ++ (_ ++ ((es 7 ++ (es 8 ++ (es 9 ++ ([])))) ++ _))) _; rw [e_7, e_8, e_9]; exact (by repeat (first | exact Pick.refl _ | exact Pick.nil | apply Pick.none | refine Pick.cons (by repeat (first | exact Take.head _ _ | apply Take.tail)) ?_))) (by show [(50, vs 7), (42, vs 8), (51, vs 9)] = _; rw [h_7, h_8, h_9])
  · rintro vs es hb ⟨⟨h_0, e_0⟩, ⟨h_1, e_1⟩, ⟨h_2, e_2⟩, ⟨h_3, e_3⟩, ⟨h_4, e_4⟩, ⟨h_5, e_5⟩, ⟨h_6, e_6⟩, ⟨ob31, n32, c33, j34, h_7, e_7, hn35, hc36, hj37, hz38⟩, ⟨q_8, e_8⟩, ⟨q_9, e_9⟩, ⟨h_10, e_10⟩, ⟨q_11, e_11⟩, -⟩ hHR
    obtain rfl : hb = [] := hHR
    have h_8 : vs 8 = .tuple #[.slice (sb ob31) n32 c33, .int .i64 r29] := by refine Eq.trans q_8 ?_; show vs 7 = _; rw [h_7] <;> rfl
    have h_9 : vs 9 = .slice (sb ob31) n32 c33 := by refine Eq.trans q_9 ?_; show (tupAt (vs 8) 0) = _; rw [h_8] <;> rfl
    have h_11 : vs 11 = .slice (sb ob31) n32 c33 := by refine Eq.trans q_11 ?_; show vs 9 = _; rw [h_9] <;> rfl
    refine TO.reenv (D := [(43, vs 0), (44, vs 1), (45, vs 2), (46, vs 3), (47, vs 4), (48, vs 5), (49, vs 6), (50, vs 7), (42, vs 8), (51, vs 9), (52, vs 10), (13, vs 11)]) rfl ?_
    refine TO.reheap (H := [(ob16, .cells (arr (intC .i64) r14 j19).toArray 2 (0, 0)), (some b1, .cells #[.int .i64 r3.N, .int .i64 r3.S, .int .i64 r3.T, .slice (sb ob5) n6 c7] 24 (0, 0)), (ob5, .cells (arr arcC r3.Arcs j8).toArray 28 (0, 0)), (ob31, .cells (arr hopC r28 j34).toArray 60 (0, 0))]) (by show _ ++ (_ ++ (es 0 ++ (es 1 ++ (es 2 ++ (es 3 ++ (es 4 ++ (es 5 ++ (es 6 ++ (es 7 ++ (es 8 ++ (es 9 ++ (es 10 ++ (es 11 ++ ([])))))))))))))) = _; rw [e_0, e_1, e_2, e_3, e_4, e_5, e_6, e_7, e_8, e_9, e_10, e_11]; rfl) ?_
    rw [h_0, h_1, h_2, h_3, h_4, h_5, h_6, h_7, h_8, h_9, h_10, h_11]
    clear h_11 h_10 h_9 h_8 h_7 h_6 h_5 h_4 h_3 h_2 h_1 h_0 q_8 q_9 q_11 e_0 e_1 e_2 e_3 e_4 e_5 e_6 e_7 e_8 e_9 e_10 e_11
    refine TO.assign rfl rfl rfl rfl ?_
    refine TO.done ?_
    refine X.seq_normal ?_
    refine T.seq ?_
    obtain ⟨⟨r40, r41⟩, e42, H⟩ := bd_some H
    refine T.regionL (ll := [0, 1, 2, 3, 4, 5, 6, 7, 8]) rfl ?_
    refine TO.loadA rfl rfl rfl rfl TWLFlowSends.a24 (List.Mem.tail _ (List.Mem.head _)) rfl ?_
    refine TO.move rfl rfl rfl rfl ?_
    refine TO.move rfl rfl rfl rfl ?_
    refine TO.callX TWLFlowSends.c34 rfl rfl rfl rfl (fun wc hwc => w_flow_Room (n0 := r3) (f1 := r14) (l2 := r28) wc (hwc.rs (f := arcC) (s := 3) (xs := r3.Arcs) (j := j8) (fun _ => rfl) (List.Mem.tail _ (List.Mem.tail _ (List.Mem.head _))) hn9 hc10 hz12) (hwc.rs (f := (intC .i64)) (s := 1) (xs := r14) (j := j19) (fun _ => rfl) (List.Mem.head _) hn20 hc21 hz23) (hwc.rs (f := hopC) (s := 2) (xs := r28) (j := j34) (fun _ => rfl) (List.Mem.tail _ (List.Mem.tail _ (List.Mem.tail _ (List.Mem.head _)))) hn35 hc36 hz38) e42) ?_
    rintro _ _ ⟨rfl, rfl⟩
    refine TO.move rfl rfl rfl rfl ?_
    refine TO.extract rfl rfl rfl rfl rfl ?_
    refine TO.extract rfl rfl rfl rfl rfl ?_
    refine TO.assign rfl rfl rfl rfl ?_
    refine TO.assign rfl rfl rfl rfl ?_
    refine TO.done ?_
    refine X.seq_normal ?_
    refine T.seq ?_
    refine T.seq ?_
    rcases ite_some H with ⟨g43, H⟩ | ⟨g43, H⟩
    ·
      refine T.regionL (ll := [0, 1, 2, 3, 4, 5, 6, 7, 8, 9]) rfl ?_
      refine TO.move rfl rfl rfl rfl ?_
      refine TO.bin rfl rfl rfl rfl rfl rfl ?_
      refine TO.move rfl rfl rfl rfl ?_
      refine TO.decB (t := 62) (b' := true) rfl (decide_eq_true g43) ?_
      refine TO.shut rfl rfl rfl rfl ?_
      refine TO.shut rfl rfl rfl rfl ?_
      refine TO.pickT rfl rfl rfl rfl rfl ?_
      refine TO.move rfl rfl rfl rfl ?_
      refine TO.shut rfl rfl rfl rfl ?_
      refine TO.shut rfl rfl rfl rfl ?_
      refine TO.pickT rfl rfl rfl rfl rfl ?_
      refine TO.done ?_
      refine X.seq_normal ?_
      refine T.condT rfl rfl ?_
      refine T.seq ?_
      refine T.regionL (ll := [0]) rfl ?_
      refine TO.assign rfl rfl rfl rfl ?_
      refine TO.done ?_
      refine X.seq_normal ?_
      refine T.ret ?_
      refine X.then_ret ?_
      obtain rfl := ret1 H
      exact X.ret1 rfl rfl rfl rfl (Res.tmp rfl) Pick.nil ⟨rfl, rfl⟩
    ·
      rcases ite_some H with ⟨g44, H⟩ | ⟨g44, H⟩
      ·
        refine T.regionL (ll := [0, 1, 2, 3, 4, 5, 6, 7, 8, 9]) rfl ?_
        refine TO.move rfl rfl rfl rfl ?_
        refine TO.bin rfl rfl rfl rfl rfl rfl ?_
        refine TO.move rfl rfl rfl rfl ?_
        refine TO.decB (t := 62) (b' := false) rfl (decide_eq_false g43) ?_
        refine TO.move rfl rfl rfl rfl ?_
        refine TO.bin rfl rfl rfl rfl rfl rfl ?_
        refine TO.pickF rfl rfl rfl rfl rfl ?_
        refine TO.move rfl rfl rfl rfl ?_
        refine TO.decB (t := 66) (b' := true) rfl (decide_eq_true g44) ?_
        refine TO.shut rfl rfl rfl rfl ?_
        refine TO.shut rfl rfl rfl rfl ?_
        refine TO.pickT rfl rfl rfl rfl rfl ?_
        refine TO.done ?_
        refine X.seq_normal ?_
        refine T.condT rfl rfl ?_
        refine T.seq ?_
        refine T.regionL (ll := [0]) rfl ?_
        refine TO.assign rfl rfl rfl rfl ?_
        refine TO.done ?_
        refine X.seq_normal ?_
        refine T.ret ?_
        refine X.then_ret ?_
        obtain rfl := ret1 H
        exact X.ret1 rfl rfl rfl rfl (Res.tmp rfl) Pick.nil ⟨rfl, rfl⟩
      ·
        refine T.regionL (ll := [0, 1, 2, 3, 4, 5, 6, 7, 8, 9]) rfl ?_
        refine TO.move rfl rfl rfl rfl ?_
        refine TO.bin rfl rfl rfl rfl rfl rfl ?_
        refine TO.move rfl rfl rfl rfl ?_
        refine TO.decB (t := 62) (b' := false) rfl (decide_eq_false g43) ?_
        refine TO.move rfl rfl rfl rfl ?_
        refine TO.bin rfl rfl rfl rfl rfl rfl ?_
        refine TO.pickF rfl rfl rfl rfl rfl ?_
        refine TO.move rfl rfl rfl rfl ?_
        refine TO.decB (t := 66) (b' := false) rfl (decide_eq_false g44) ?_
        refine TO.move rfl rfl rfl rfl ?_
        refine TO.bin rfl rfl rfl rfl rfl rfl ?_
        refine TO.pickF rfl rfl rfl rfl rfl ?_
        refine TO.done ?_
        refine X.seq_normal ?_
        rcases ite_some H with ⟨g45, H⟩ | ⟨g45, H⟩
        ·
          refine T.condPT rfl g45 ?_
          refine T.seq ?_
          refine T.regionL (ll := [0]) rfl ?_
          refine TO.assign rfl rfl rfl rfl ?_
          refine TO.done ?_
          refine X.seq_normal ?_
          refine T.ret ?_
          refine X.then_ret ?_
          obtain rfl := ret1 H
          exact X.ret1 rfl rfl rfl rfl (Res.tmp rfl) Pick.nil ⟨rfl, rfl⟩
        ·
          refine T.condPF rfl g45 ?_
          refine T.skip ?_
          refine X.seq_normal ?_
          refine T.seq ?_
          obtain ⟨g46, H⟩ := gd_some H
          obtain ⟨g47, H⟩ := gd_some H
          obtain ⟨g48, H⟩ := gd_some H
          obtain ⟨g49, H⟩ := gd_some H
          refine T.regionL (ll := [0, 1, 2, 3, 4, 5, 6]) rfl ?_
          refine TO.move rfl rfl rfl rfl ?_
          refine TO.move rfl rfl rfl rfl ?_
          refine TO.addG g46 rfl rfl rfl rfl rfl ?_
          refine TO.convIn rfl rfl rfl rfl TWLFlowSends.o2 TWLFlowSends.i53 (wrap_u64_of g47) ?_
          refine TO.rem rfl rfl rfl rfl rfl g48 ?_
          refine TO.convIn rfl rfl rfl rfl TWLFlowSends.o53 TWLFlowSends.i2 (wrap_i64_of g49.1 g49.2) ?_
          refine TO.assign rfl rfl rfl rfl ?_
          refine TO.done ?_
          refine X.seq_normal ?_
          refine T.seq ?_
          obtain ⟨⟨r50, r51⟩, e52, H⟩ := bd_some H
          refine T.regionL (ll := [0, 1, 2, 3, 4, 5, 6, 7, 8, 9]) rfl ?_
          refine TO.loadA rfl rfl rfl rfl TWLFlowSends.a24 (List.Mem.tail _ (List.Mem.head _)) rfl ?_
          refine TO.move rfl rfl rfl rfl ?_
          refine TO.move rfl rfl rfl rfl ?_
          refine TO.move rfl rfl rfl rfl ?_
          refine TO.callX TWLFlowSends.c35 rfl rfl rfl rfl (fun wc hwc => w_flow_Send (n0 := r3) (f1 := r14) (l2 := r28) (d3 := (d4.tmod (r40 + 1))) wc (hwc.rs (f := arcC) (s := 3) (xs := r3.Arcs) (j := j8) (fun _ => rfl) (List.Mem.tail _ (List.Mem.tail _ (List.Mem.head _))) hn9 hc10 hz12) (hwc.rs (f := (intC .i64)) (s := 1) (xs := r14) (j := j19) (fun _ => rfl) (List.Mem.head _) hn20 hc21 hz23) (hwc.rs (f := hopC) (s := 2) (xs := r28) (j := j34) (fun _ => rfl) (List.Mem.tail _ (List.Mem.tail _ (List.Mem.tail _ (List.Mem.head _)))) hn35 hc36 hz38) e52) ?_
          rintro _ _ ⟨ob53, n54, c55, j56, rfl, rfl, hn57, hc58, hj59, hz60⟩
          refine TO.move rfl rfl rfl rfl ?_
          refine TO.extract rfl rfl rfl rfl rfl ?_
          refine TO.extract rfl rfl rfl rfl rfl ?_
          refine TO.assign rfl rfl rfl rfl ?_
          refine TO.assign rfl rfl rfl rfl ?_
          refine TO.done ?_
          refine X.seq_normal ?_
          refine T.seq ?_
          obtain ⟨g62, H⟩ := gd_some H
          obtain ⟨⟨r63, r64⟩, e65, H⟩ := bd_some H
          refine T.regionL (ll := [0, 1, 2, 3, 4, 5, 6, 7, 8, 9, 10]) rfl ?_
          refine TO.loadA rfl rfl rfl rfl TWLFlowSends.a24 (List.Mem.tail _ (List.Mem.tail _ (List.Mem.head _))) rfl ?_
          refine TO.move rfl rfl rfl rfl ?_
          refine TO.move rfl rfl rfl rfl ?_
          refine TO.move rfl rfl rfl rfl ?_
          refine TO.addG g62 rfl rfl rfl rfl rfl ?_
          refine TO.callX TWLFlowSends.c35 rfl rfl rfl rfl (fun wc hwc => w_flow_Send (n0 := r3) (f1 := r14) (l2 := r28) (d3 := (r40 + 1)) wc (hwc.rs (f := arcC) (s := 3) (xs := r3.Arcs) (j := j8) (fun _ => rfl) (List.Mem.tail _ (List.Mem.tail _ (List.Mem.tail _ (List.Mem.head _)))) hn9 hc10 hz12) (hwc.rs (f := (intC .i64)) (s := 1) (xs := r14) (j := j19) (fun _ => rfl) (List.Mem.tail _ (List.Mem.head _)) hn20 hc21 hz23) (hwc.rs (f := hopC) (s := 2) (xs := r28) (j := j34) (fun _ => rfl) (List.Mem.tail _ (List.Mem.tail _ (List.Mem.tail _ (List.Mem.tail _ (List.Mem.head _))))) hn35 hc36 hz38) e65) ?_
          rintro _ _ ⟨ob66, n67, c68, j69, rfl, rfl, hn70, hc71, hj72, hz73⟩
          refine TO.move rfl rfl rfl rfl ?_
          refine TO.extract rfl rfl rfl rfl rfl ?_
          refine TO.extract rfl rfl rfl rfl rfl ?_
          refine TO.assign rfl rfl rfl rfl ?_
          refine TO.assign rfl rfl rfl rfl ?_
          refine TO.done ?_
          refine X.seq_normal ?_
          refine T.seq ?_
          obtain ⟨⟨r75, r76⟩, e77, H⟩ := bd_some H
          refine T.regionL (ll := [0, 1, 2, 3, 4, 5, 6, 7, 8]) rfl ?_
          refine TO.loadA rfl rfl rfl rfl TWLFlowSends.a24 (List.Mem.tail _ (List.Mem.tail _ (List.Mem.tail _ (List.Mem.head _)))) rfl ?_
          refine TO.move rfl rfl rfl rfl ?_
          refine TO.move rfl rfl rfl rfl ?_
          refine TO.callX TWLFlowSends.c35 rfl rfl rfl rfl (fun wc hwc => w_flow_Send (n0 := r3) (f1 := r14) (l2 := r28) (d3 := (-1)) wc (hwc.rs (f := arcC) (s := 3) (xs := r3.Arcs) (j := j8) (fun _ => rfl) (List.Mem.tail _ (List.Mem.tail _ (List.Mem.tail _ (List.Mem.tail _ (List.Mem.head _))))) hn9 hc10 hz12) (hwc.rs (f := (intC .i64)) (s := 1) (xs := r14) (j := j19) (fun _ => rfl) (List.Mem.tail _ (List.Mem.tail _ (List.Mem.head _))) hn20 hc21 hz23) (hwc.rs (f := hopC) (s := 2) (xs := r28) (j := j34) (fun _ => rfl) (List.Mem.tail _ (List.Mem.tail _ (List.Mem.tail _ (List.Mem.tail _ (List.Mem.tail _ (List.Mem.head _)))))) hn35 hc36 hz38) e77) ?_
          rintro _ _ ⟨ob78, n79, c80, j81, rfl, rfl, hn82, hc83, hj84, hz85⟩
          refine TO.move rfl rfl rfl rfl ?_
          refine TO.extract rfl rfl rfl rfl rfl ?_
          refine TO.extract rfl rfl rfl rfl rfl ?_
          refine TO.assign rfl rfl rfl rfl ?_
          refine TO.assign rfl rfl rfl rfl ?_
          refine TO.done ?_
          refine X.seq_normal ?_
          refine T.seq ?_
          refine T.seq ?_
          rcases ite_some H with ⟨g87, H⟩ | ⟨g87, H⟩
          ·
            refine T.regionL (ll := [0, 1, 2, 3, 4, 5, 6, 7, 8, 9, 10, 11, 12, 13, 14, 15]) rfl ?_
            refine TO.move rfl rfl rfl rfl ?_
            refine TO.bin rfl rfl rfl rfl rfl rfl ?_
            refine TO.move rfl rfl rfl rfl ?_
            refine TO.decB (t := 102) (b' := true) rfl (decide_eq_true g87) ?_
            refine TO.shut rfl rfl rfl rfl ?_
            refine TO.shut rfl rfl rfl rfl ?_
            refine TO.pickT rfl rfl rfl rfl rfl ?_
            refine TO.move rfl rfl rfl rfl ?_
            refine TO.shut rfl rfl rfl rfl ?_
            refine TO.shut rfl rfl rfl rfl ?_
            refine TO.pickT rfl rfl rfl rfl rfl ?_
            refine TO.move rfl rfl rfl rfl ?_
            refine TO.shut rfl rfl rfl rfl ?_
            refine TO.shut rfl rfl rfl rfl ?_
            refine TO.shut rfl rfl rfl rfl ?_
            refine TO.shut rfl rfl rfl rfl ?_
            refine TO.pickT rfl rfl rfl rfl rfl ?_
            refine TO.done ?_
            refine X.seq_normal ?_
            refine T.condT rfl rfl ?_
            refine T.seq ?_
            refine T.regionL (ll := [0]) rfl ?_
            refine TO.assign rfl rfl rfl rfl ?_
            refine TO.done ?_
            refine X.seq_normal ?_
            refine T.ret ?_
            refine X.then_ret ?_
            obtain rfl := ret1 H
            exact X.ret1 rfl rfl rfl rfl (Res.tmp rfl) Pick.nil ⟨rfl, rfl⟩
          ·
            rcases ite_some H with ⟨g88, H⟩ | ⟨g88, H⟩
            ·
              refine T.regionL (ll := [0, 1, 2, 3, 4, 5, 6, 7, 8, 9, 10, 11, 12, 13, 14, 15]) rfl ?_
              refine TO.move rfl rfl rfl rfl ?_
              refine TO.bin rfl rfl rfl rfl rfl rfl ?_
              refine TO.move rfl rfl rfl rfl ?_
              refine TO.decB (t := 102) (b' := false) rfl (decide_eq_false g87) ?_
              refine TO.move rfl rfl rfl rfl ?_
              refine TO.bin rfl rfl rfl rfl rfl rfl ?_
              refine TO.pickF rfl rfl rfl rfl rfl ?_
              refine TO.move rfl rfl rfl rfl ?_
              refine TO.decB (t := 106) (b' := true) rfl (decide_eq_true g88) ?_
              refine TO.shut rfl rfl rfl rfl ?_
              refine TO.shut rfl rfl rfl rfl ?_
              refine TO.pickT rfl rfl rfl rfl rfl ?_
              refine TO.move rfl rfl rfl rfl ?_
              refine TO.shut rfl rfl rfl rfl ?_
              refine TO.shut rfl rfl rfl rfl ?_
              refine TO.shut rfl rfl rfl rfl ?_
              refine TO.shut rfl rfl rfl rfl ?_
              refine TO.pickT rfl rfl rfl rfl rfl ?_
              refine TO.done ?_
              refine X.seq_normal ?_
              refine T.condT rfl rfl ?_
              refine T.seq ?_
              refine T.regionL (ll := [0]) rfl ?_
              refine TO.assign rfl rfl rfl rfl ?_
              refine TO.done ?_
              refine X.seq_normal ?_
              refine T.ret ?_
              refine X.then_ret ?_
              obtain rfl := ret1 H
              exact X.ret1 rfl rfl rfl rfl (Res.tmp rfl) Pick.nil ⟨rfl, rfl⟩
            ·
              rcases ite_some H with ⟨g89, H⟩ | ⟨g89, H⟩
              ·
                refine T.regionL (ll := [0, 1, 2, 3, 4, 5, 6, 7, 8, 9, 10, 11, 12, 13, 14, 15]) rfl ?_
                refine TO.move rfl rfl rfl rfl ?_
                refine TO.bin rfl rfl rfl rfl rfl rfl ?_
                refine TO.move rfl rfl rfl rfl ?_
                refine TO.decB (t := 102) (b' := false) rfl (decide_eq_false g87) ?_
                refine TO.move rfl rfl rfl rfl ?_
                refine TO.bin rfl rfl rfl rfl rfl rfl ?_
                refine TO.pickF rfl rfl rfl rfl rfl ?_
                refine TO.move rfl rfl rfl rfl ?_
                refine TO.decB (t := 106) (b' := false) rfl (decide_eq_false g88) ?_
                refine TO.move rfl rfl rfl rfl ?_
                refine TO.bin rfl rfl rfl rfl rfl rfl ?_
                refine TO.pickF rfl rfl rfl rfl rfl ?_
                refine TO.move rfl rfl rfl rfl ?_
                refine TO.decB (t := 110) (b' := true) rfl (decide_eq_true g89) ?_
                refine TO.shut rfl rfl rfl rfl ?_
                refine TO.shut rfl rfl rfl rfl ?_
                refine TO.shut rfl rfl rfl rfl ?_
                refine TO.shut rfl rfl rfl rfl ?_
                refine TO.pickT rfl rfl rfl rfl rfl ?_
                refine TO.done ?_
                refine X.seq_normal ?_
                refine T.condT rfl rfl ?_
                refine T.seq ?_
                refine T.regionL (ll := [0]) rfl ?_
                refine TO.assign rfl rfl rfl rfl ?_
                refine TO.done ?_
                refine X.seq_normal ?_
                refine T.ret ?_
                refine X.then_ret ?_
                obtain rfl := ret1 H
                exact X.ret1 rfl rfl rfl rfl (Res.tmp rfl) Pick.nil ⟨rfl, rfl⟩
              ·
                obtain ⟨r90, e91, H⟩ := bd_some H
                refine T.regionL (ll := [0, 1, 2, 3, 4, 5, 6, 7, 8, 9, 10, 11, 12, 13, 14, 15]) rfl ?_
                refine TO.move rfl rfl rfl rfl ?_
                refine TO.bin rfl rfl rfl rfl rfl rfl ?_
                refine TO.move rfl rfl rfl rfl ?_
                refine TO.decB (t := 102) (b' := false) rfl (decide_eq_false g87) ?_
                refine TO.move rfl rfl rfl rfl ?_
                refine TO.bin rfl rfl rfl rfl rfl rfl ?_
                refine TO.pickF rfl rfl rfl rfl rfl ?_
                refine TO.move rfl rfl rfl rfl ?_
                refine TO.decB (t := 106) (b' := false) rfl (decide_eq_false g88) ?_
                refine TO.move rfl rfl rfl rfl ?_
                refine TO.bin rfl rfl rfl rfl rfl rfl ?_
                refine TO.pickF rfl rfl rfl rfl rfl ?_
                refine TO.move rfl rfl rfl rfl ?_
                refine TO.decB (t := 110) (b' := false) rfl (decide_eq_false g89) ?_
                refine TO.loadA rfl rfl rfl rfl TWLFlowSends.a24 (List.Mem.tail _ (List.Mem.tail _ (List.Mem.tail _ (List.Mem.tail _ (List.Mem.head _))))) rfl ?_
                refine TO.move rfl rfl rfl rfl ?_
                refine TO.callX TWLFlowSends.c28 rfl rfl rfl rfl (fun wc hwc => w_flow_Within (n0 := r3) (f1 := r50) wc (hwc.rs (f := arcC) (s := 3) (xs := r3.Arcs) (j := j8) (fun _ => rfl) (List.Mem.tail _ (List.Mem.tail _ (List.Mem.tail _ (List.Mem.tail _ (List.Mem.tail _ (List.Mem.head _)))))) hn9 hc10 hz12) (hwc.rs (f := (intC .i64)) (s := 1) (xs := r50) (j := j56) (fun _ => rfl) (List.Mem.tail _ (List.Mem.tail _ (List.Mem.head _))) hn57 hc58 hz60) e91) ?_
                rintro _ _ ⟨rfl, rfl⟩
                refine TO.not rfl rfl rfl rfl ?_
                refine TO.pickF rfl rfl rfl rfl rfl ?_
                refine TO.done ?_
                refine X.seq_normal ?_
                rcases ite_some H with ⟨g92, H⟩ | ⟨g92, H⟩
                ·
                  refine T.condT rfl g92 ?_
                  refine T.seq ?_
                  refine T.regionL (ll := [0]) rfl ?_
                  refine TO.assign rfl rfl rfl rfl ?_
                  refine TO.done ?_
                  refine X.seq_normal ?_
                  refine T.ret ?_
                  refine X.then_ret ?_
                  obtain rfl := ret1 H
                  exact X.ret1 rfl rfl rfl rfl (Res.tmp rfl) Pick.nil ⟨rfl, rfl⟩
                ·
                  refine T.condF rfl (Bool.eq_false_iff.2 g92) ?_
                  refine T.skip ?_
                  refine X.seq_normal ?_
                  refine T.seq ?_
                  obtain ⟨⟨r93, r94⟩, e95, H⟩ := bd_some H
                  refine T.regionL (ll := [0, 1, 2, 3, 4, 5, 6, 7]) rfl ?_
                  refine TO.loadA rfl rfl rfl rfl TWLFlowSends.a24 (List.Mem.tail _ (List.Mem.tail _ (List.Mem.tail _ (List.Mem.tail _ (List.Mem.head _))))) rfl ?_
                  refine TO.move rfl rfl rfl rfl ?_
                  refine TO.callX TWLFlowSends.c27 rfl rfl rfl rfl (fun wc hwc => w_flow_Excess (n0 := r3) (f1 := r14) wc (hwc.rs (f := arcC) (s := 3) (xs := r3.Arcs) (j := j8) (fun _ => rfl) (List.Mem.tail _ (List.Mem.tail _ (List.Mem.tail _ (List.Mem.tail _ (List.Mem.tail _ (List.Mem.head _)))))) hn9 hc10 hz12) (hwc.rs (f := (intC .i64)) (s := 1) (xs := r14) (j := j19) (fun _ => rfl) (List.Mem.tail _ (List.Mem.tail _ (List.Mem.tail _ (List.Mem.head _)))) hn20 hc21 hz23) e95) ?_
                  rintro _ _ ⟨ob96, n97, c98, j99, rfl, rfl, hn100, hc101, hj102, hz103⟩
                  refine TO.move rfl rfl rfl rfl ?_
                  refine TO.extract rfl rfl rfl rfl rfl ?_
                  refine TO.extract rfl rfl rfl rfl rfl ?_
                  refine TO.assign rfl rfl rfl rfl ?_
                  refine TO.assign rfl rfl rfl rfl ?_
                  refine TO.done ?_
                  refine X.seq_normal ?_
                  refine T.seq ?_
                  obtain ⟨⟨r105, r106⟩, e107, H⟩ := bd_some H
                  refine T.regionL (ll := [0, 1, 2, 3, 4, 5, 6, 7]) rfl ?_
                  refine TO.loadA rfl rfl rfl rfl TWLFlowSends.a24 (List.Mem.tail _ (List.Mem.tail _ (List.Mem.tail _ (List.Mem.tail _ (List.Mem.tail _ (List.Mem.head _)))))) rfl ?_
                  refine TO.move rfl rfl rfl rfl ?_
                  refine TO.callX TWLFlowSends.c27 rfl rfl rfl rfl (fun wc hwc => w_flow_Excess (n0 := r3) (f1 := r50) wc (hwc.rs (f := arcC) (s := 3) (xs := r3.Arcs) (j := j8) (fun _ => rfl) (List.Mem.tail _ (List.Mem.tail _ (List.Mem.tail _ (List.Mem.tail _ (List.Mem.tail _ (List.Mem.tail _ (List.Mem.head _))))))) hn9 hc10 hz12) (hwc.rs (f := (intC .i64)) (s := 1) (xs := r50) (j := j56) (fun _ => rfl) (List.Mem.tail _ (List.Mem.tail _ (List.Mem.tail _ (List.Mem.head _)))) hn57 hc58 hz60) e107) ?_
                  rintro _ _ ⟨ob108, n109, c110, j111, rfl, rfl, hn112, hc113, hj114, hz115⟩
                  refine TO.move rfl rfl rfl rfl ?_
                  refine TO.extract rfl rfl rfl rfl rfl ?_
                  refine TO.extract rfl rfl rfl rfl rfl ?_
                  refine TO.assign rfl rfl rfl rfl ?_
                  refine TO.assign rfl rfl rfl rfl ?_
                  refine TO.done ?_
                  refine X.seq_normal ?_
                  refine T.seq ?_
                  refine T.seq ?_
                  rcases ite_some H with ⟨g117, H⟩ | ⟨g117, H⟩
                  ·
                    refine T.regionL (ll := [0, 1, 2, 3, 4, 5, 6, 7, 8, 9, 10, 11]) rfl ?_
                    refine TO.move rfl rfl rfl rfl ?_
                    refine TO.lenX (xs := r93) hn100 rfl rfl rfl rfl rfl TWLFlowSends.l25 ?_
                    refine TO.fieldAddr0 rfl rfl rfl rfl TWLFlowSends.f24_0 ?_
                    refine TO.load1 rfl rfl rfl rfl TWLFlowSends.s3 (List.Mem.tail _ (List.Mem.tail _ (List.Mem.tail _ (List.Mem.tail _ (List.Mem.tail _ (List.Mem.tail _ (List.Mem.head _))))))) rfl ?_
                    refine TO.bin rfl rfl rfl rfl rfl rfl ?_
                    refine TO.move rfl rfl rfl rfl ?_
                    refine TO.decB (t := 133) (b' := true) rfl (decide_eq_true g117) ?_
                    refine TO.shut rfl rfl rfl rfl ?_
                    refine TO.shut rfl rfl rfl rfl ?_
                    refine TO.shut rfl rfl rfl rfl ?_
                    refine TO.shut rfl rfl rfl rfl ?_
                    refine TO.shut rfl rfl rfl rfl ?_
                    refine TO.pickT rfl rfl rfl rfl rfl ?_
                    refine TO.done ?_
                    refine X.seq_normal ?_
                    refine T.condT rfl rfl ?_
                    refine T.seq ?_
                    refine T.regionL (ll := [0]) rfl ?_
                    refine TO.assign rfl rfl rfl rfl ?_
                    refine TO.done ?_
                    refine X.seq_normal ?_
                    refine T.ret ?_
                    refine X.then_ret ?_
                    obtain rfl := ret1 H
                    exact X.ret1 rfl rfl rfl rfl (Res.tmp rfl) Pick.nil ⟨rfl, rfl⟩
                  ·
                    refine T.regionL (ll := [0, 1, 2, 3, 4, 5, 6, 7, 8, 9, 10, 11]) rfl ?_
                    refine TO.move rfl rfl rfl rfl ?_
                    refine TO.lenX (xs := r93) hn100 rfl rfl rfl rfl rfl TWLFlowSends.l25 ?_
                    refine TO.fieldAddr0 rfl rfl rfl rfl TWLFlowSends.f24_0 ?_
                    refine TO.load1 rfl rfl rfl rfl TWLFlowSends.s3 (List.Mem.tail _ (List.Mem.tail _ (List.Mem.tail _ (List.Mem.tail _ (List.Mem.tail _ (List.Mem.tail _ (List.Mem.head _))))))) rfl ?_
                    refine TO.bin rfl rfl rfl rfl rfl rfl ?_
                    refine TO.move rfl rfl rfl rfl ?_
                    refine TO.decB (t := 133) (b' := false) rfl (decide_eq_false g117) ?_
                    refine TO.move rfl rfl rfl rfl ?_
                    refine TO.lenX (xs := r105) hn112 rfl rfl rfl rfl rfl TWLFlowSends.l25 ?_
                    refine TO.fieldAddr0 rfl rfl rfl rfl TWLFlowSends.f24_0 ?_
                    refine TO.load1 rfl rfl rfl rfl TWLFlowSends.s3 (List.Mem.tail _ (List.Mem.tail _ (List.Mem.tail _ (List.Mem.tail _ (List.Mem.tail _ (List.Mem.tail _ (List.Mem.head _))))))) rfl ?_
                    refine TO.bin rfl rfl rfl rfl rfl rfl ?_
                    refine TO.pickF rfl rfl rfl rfl rfl ?_
                    refine TO.done ?_
                    refine X.seq_normal ?_
                    rcases ite_some H with ⟨g118, H⟩ | ⟨g118, H⟩
                    ·
                      refine T.condPT rfl g118 ?_
                      refine T.seq ?_
                      refine T.regionL (ll := [0]) rfl ?_
                      refine TO.assign rfl rfl rfl rfl ?_
                      refine TO.done ?_
                      refine X.seq_normal ?_
                      refine T.ret ?_
                      refine X.then_ret ?_
                      obtain rfl := ret1 H
                      exact X.ret1 rfl rfl rfl rfl (Res.tmp rfl) Pick.nil ⟨rfl, rfl⟩
                    ·
                      refine T.condPF rfl g118 ?_
                      refine T.skip ?_
                      refine X.seq_normal ?_
                      refine T.seq ?_
                      obtain ⟨g119, H⟩ := gd_some H
                      obtain ⟨g120, H⟩ := gd_some H
                      obtain ⟨g121, H⟩ := gd_some H
                      refine T.regionL (ll := [0, 1, 2, 3, 4, 5, 6, 7]) rfl ?_
                      refine TO.move rfl rfl rfl rfl ?_
                      refine TO.move rfl rfl rfl rfl ?_
                      refine TO.ixV hz103 hc101 hn100 g119 rfl rfl rfl rfl rfl TWLFlowSends.l25 TWLFlowSends.n2 ?_
                      refine TO.ldIV hz103 hc101 hn100 g119 rfl rfl rfl rfl TWLFlowSends.s2 (List.Mem.tail _ (List.Mem.head _)) ?_
                      refine TO.move rfl rfl rfl rfl ?_
                      refine TO.subG g120 rfl rfl rfl rfl rfl ?_
                      refine TO.ixV hz103 hc101 hn100 g121 rfl rfl rfl rfl rfl TWLFlowSends.l25 TWLFlowSends.n2 ?_
                      refine TO.stIV hz103 hc101 hn100 g121 rfl rfl rfl rfl (Take.tail (Take.head _ _)) TWLFlowSends.n2 ?_
                      refine TO.done ?_
                      refine X.seq_normal ?_
                      refine T.seq ?_
                      obtain ⟨g122, H⟩ := gd_some H
                      obtain ⟨g123, H⟩ := gd_some H
                      obtain ⟨g124, H⟩ := gd_some H
                      refine T.regionL (ll := [0, 1, 2, 3, 4, 5, 6, 7]) rfl ?_
                      refine TO.move rfl rfl rfl rfl ?_
                      refine TO.move rfl rfl rfl rfl ?_
                      refine TO.ixV hz103 hc101 (List.length_set.trans hn100) g122 rfl rfl rfl rfl rfl TWLFlowSends.l25 TWLFlowSends.n2 ?_
                      refine TO.ldIV hz103 hc101 (List.length_set.trans hn100) g122 rfl rfl rfl rfl TWLFlowSends.s2 (List.Mem.head _) ?_
                      refine TO.move rfl rfl rfl rfl ?_
                      refine TO.addG g123 rfl rfl rfl rfl rfl ?_
                      refine TO.ixV hz103 hc101 (List.length_set.trans hn100) g124 rfl rfl rfl rfl rfl TWLFlowSends.l25 TWLFlowSends.n2 ?_
                      refine TO.stIV hz103 hc101 (List.length_set.trans hn100) g124 rfl rfl rfl rfl (Take.head _ _) TWLFlowSends.n2 ?_
                      refine TO.done ?_
                      refine X.seq_normal ?_
                      refine T.seq ?_
                      refine T.regionL (ll := [0]) rfl ?_
                      refine TO.assign rfl rfl rfl rfl ?_
                      refine TO.done ?_
                      refine X.seq_normal ?_
                      refine T.seq ?_
                      refine T.seq ?_
                      obtain ⟨g125, H⟩ := gd_some H
                      refine T.regionL (ll := [0, 1, 2, 3]) rfl ?_
                      refine TO.move rfl rfl rfl rfl ?_
                      refine TO.lenX (xs := r28) hn35 rfl rfl rfl rfl rfl TWLFlowSends.l54 ?_
                      refine TO.subG g125 rfl rfl rfl rfl rfl ?_
                      refine TO.assign rfl rfl rfl rfl ?_
                      refine TO.done ?_
                      refine X.seq_normal ?_
                      refine T.meetSE5 (fun (back151 : List Hop) (n152 : Nat) (c153 : Nat) (ob154 : Option Nat) (j155 : List Value) => m_acequialaw03_FlowSends_j2 from2 d4 r3 r14 r29 r40 r50 r93 r105 back151 = some r0 ∧ back151.length = n152 ∧ n152 ≤ c153 ∧ j155.length = (c153 - n152) * 2 ∧ (ob154 = none → c153 = 0)) (fun (back151 : List Hop) (n152 : Nat) (c153 : Nat) (ob154 : Option Nat) (j155 : List Value) => [(5, .pointer (some ⟨b1, 0, none⟩)), (11, .slice (sb ob16) n17 c18), (17, .int .i64 (d4.tmod (r40 + 1))), (18, .slice (sb ob53) n54 c55), (24, .slice (sb ob96) n97 c98), (26, .slice (sb ob108) n109 c110), (28, .slice (sb ob154) n152 c153)]) (fun (back151 : List Hop) (n152 : Nat) (c153 : Nat) (ob154 : Option Nat) (j155 : List Value) => [(some b1, .cells #[.int .i64 r3.N, .int .i64 r3.S, .int .i64 r3.T, .slice (sb ob5) n6 c7] 24 (0, 0)), (ob5, .cells (arr arcC r3.Arcs j8).toArray 28 (0, 0)), (ob16, .cells (arr (intC .i64) r14 j19).toArray 2 (0, 0)), (ob53, .cells (arr (intC .i64) r50 j56).toArray 2 (0, 0)), (ob96, .cells (arr (intC .i64) ((r93.set (from2.tmod r3.N).toNat ((r93.getD (from2.tmod r3.N).toNat 0) - (d4.tmod (r40 + 1)))).set r29.toNat (((r93.set (from2.tmod r3.N).toNat ((r93.getD (from2.tmod r3.N).toNat 0) - (d4.tmod (r40 + 1)))).getD r29.toNat 0) + (d4.tmod (r40 + 1)))) j99).toArray 2 (0, 0)), (ob108, .cells (arr (intC .i64) r105 j111).toArray 2 (0, 0)), (ob154, .cells (arr hopC back151 j155).toArray 60 (0, 0))]) ?_ ?_
                      ·
                        refine T.block ?_
                        obtain ⟨o_1, e_1, K_1⟩ := bd_some H
                        refine T.loopE7 (fun (m_1 : Nat) (back126 : List Hop) (n127 : Nat) (c128 : Nat) (ob129 : Option Nat) (j130 : List Value) (i136 : Int) => loopM (fun s => m_acequialaw03_FlowSends_s1 r28 s.1 s.2) m_1 (back126, i136) = some o_1 ∧ back126.length = n127 ∧ n127 ≤ c128 ∧ j130.length = (c128 - n127) * 2 ∧ (ob129 = none → c128 = 0)) (fun (m_1 : Nat) (back126 : List Hop) (n127 : Nat) (c128 : Nat) (ob129 : Option Nat) (j130 : List Value) (i136 : Int) => [(5, .pointer (some ⟨b1, 0, none⟩)), (11, .slice (sb ob16) n17 c18), (13, .slice (sb ob31) n32 c33), (17, .int .i64 (d4.tmod (r40 + 1))), (18, .slice (sb ob53) n54 c55), (24, .slice (sb ob96) n97 c98), (26, .slice (sb ob108) n109 c110), (28, .slice (sb ob129) n127 c128), (29, .int .i64 i136)]) (fun (m_1 : Nat) (back126 : List Hop) (n127 : Nat) (c128 : Nat) (ob129 : Option Nat) (j130 : List Value) (i136 : Int) => [(some b1, .cells #[.int .i64 r3.N, .int .i64 r3.S, .int .i64 r3.T, .slice (sb ob5) n6 c7] 24 (0, 0)), (ob5, .cells (arr arcC r3.Arcs j8).toArray 28 (0, 0)), (ob16, .cells (arr (intC .i64) r14 j19).toArray 2 (0, 0)), (ob31, .cells (arr hopC r28 j34).toArray 60 (0, 0)), (ob53, .cells (arr (intC .i64) r50 j56).toArray 2 (0, 0)), (ob96, .cells (arr (intC .i64) ((r93.set (from2.tmod r3.N).toNat ((r93.getD (from2.tmod r3.N).toNat 0) - (d4.tmod (r40 + 1)))).set r29.toNat (((r93.set (from2.tmod r3.N).toNat ((r93.getD (from2.tmod r3.N).toNat 0) - (d4.tmod (r40 + 1)))).getD r29.toNat 0) + (d4.tmod (r40 + 1)))) j99).toArray 2 (0, 0)), (ob108, .cells (arr (intC .i64) r105 j111).toArray 2 (0, 0)), (ob129, .cells (arr hopC back126 j130).toArray 60 (0, 0))]) (fun (m_1 : Nat) (back126 : List Hop) (n127 : Nat) (c128 : Nat) (ob129 : Option Nat) (j130 : List Value) (i136 : Int) => m_1) FUEL ([]) 0 0 none ([]) ((r28.length : Int) - 1) ⟨e_1, rfl, (Nat.le_refl _), (zeroJ 0 _), (fun _ => rfl)⟩ (AllF.cons rfl (AllF.cons rfl (AllF.cons rfl (AllF.cons rfl (AllF.cons rfl (AllF.cons rfl (AllF.cons rfl (AllF.cons rfl (AllF.cons rfl AllF.nil))))))))) (Pick.cons (Take.tail (Take.tail (Take.tail (Take.tail (Take.tail (Take.tail (Take.head _ _))))))) (Pick.cons (Take.tail (Take.tail (Take.tail (Take.tail (Take.tail (Take.tail (Take.head _ _))))))) (Pick.cons (Take.tail (Take.tail (Take.tail (Take.tail (Take.tail (Take.head _ _)))))) (Pick.cons (Take.tail (Take.tail (Take.tail (Take.tail (Take.tail (Take.head _ _)))))) (Pick.cons (Take.tail (Take.tail (Take.tail (Take.tail (Take.head _ _))))) (Pick.cons (Take.head _ _) (Pick.cons (Take.head _ _) (Pick.none Pick.nil)))))))) ?_
                        rintro m_1 back126 n127 c128 ob129 j130 i136 ⟨H, hn131, hc132, hj133, hz134⟩
                        obtain ⟨n_1, r_1, rfl, H, C_1⟩ := loopM_some H
                        have H : m_acequialaw03_FlowSends_s1 r28 back126 i136 = some r_1 := H
                        unfold m_acequialaw03_FlowSends_s1 at H
                        refine T.seq ?_
                        refine T.seq ?_
                        refine T.regionL (ll := [0, 1]) rfl ?_
                        refine TO.move rfl rfl rfl rfl ?_
                        refine TO.bin rfl rfl rfl rfl rfl rfl ?_
                        refine TO.done ?_
                        refine X.seq_normal ?_
                        rcases ite_some H with ⟨g137, H⟩ | ⟨g137, H⟩
                        ·
                          refine T.condPT rfl g137 ?_
                          refine T.skip ?_
                          refine X.seq_normal ?_
                          refine T.seq ?_
                          refine T.block ?_
                          obtain ⟨g138, H⟩ := gd_some H
                          obtain ⟨g139, H⟩ := gd_some H
                          obtain ⟨g142, H⟩ := gd_some H
                          apply T.drawL [⟨[], false, relV _⟩, ⟨[], false, relV _⟩, ⟨[], false, relV _⟩, ⟨[1, 2], false, relV _⟩, ⟨[1, 2, 3], false, relV _⟩, ⟨[1, 2, 3, 4], false, relV _⟩, ⟨[], false, relV _⟩, ⟨[], false, relV _⟩, ⟨[6, 7], false, relV _⟩, ⟨[6, 7, 8], false, relV _⟩, ⟨[6, 7, 8, 9], false, relV _⟩, ⟨[10], false, relV _⟩, ⟨[5, 11], false, relV _⟩, ⟨[12], false, fun _ v e => ∃ (b140 : Nat), v = .slice (some ⟨b140, 0, none⟩) 1 1 ∧ e = [(some b140, .cells (arr hopC ([(Hop.mk ((r28.getD i136.toNat default).Arc) (!(r28.getD i136.toNat default).Back))]) ([])).toArray 60 (0, 0))]⟩] [161, 162, 163, 164, 165, 166, 167, 168, 169, 170, 171, 172, 173, 174] 14 (HRk [[]]) [[]] [] [(some b1, .cells #[.int .i64 r3.N, .int .i64 r3.S, .int .i64 r3.T, .slice (sb ob5) n6 c7] 24 (0, 0)), (ob5, .cells (arr arcC r3.Arcs j8).toArray 28 (0, 0)), (ob16, .cells (arr (intC .i64) r14 j19).toArray 2 (0, 0)), (ob31, .cells (arr hopC r28 j34).toArray 60 (0, 0)), (ob53, .cells (arr (intC .i64) r50 j56).toArray 2 (0, 0)), (ob96, .cells (arr (intC .i64) ((r93.set (from2.tmod r3.N).toNat ((r93.getD (from2.tmod r3.N).toNat 0) - (d4.tmod (r40 + 1)))).set r29.toNat (((r93.set (from2.tmod r3.N).toNat ((r93.getD (from2.tmod r3.N).toNat 0) - (d4.tmod (r40 + 1)))).getD r29.toNat 0) + (d4.tmod (r40 + 1)))) j99).toArray 2 (0, 0)), (ob108, .cells (arr (intC .i64) r105 j111).toArray 2 (0, 0)), (ob129, .cells (arr hopC back126 j130).toArray 60 (0, 0))]
                          · exact mixed
                          · exact rfl
                          · kernel_rfl
                          · kernel_rfl
                          · kernel_rfl
                          · exact rfl
                          · exact rfl
                          · exact rfl
                          · exact rfl
                          · exact (by repeat (first | exact Pick.refl _ | exact Pick.nil | apply Pick.none | refine Pick.cons (by repeat (first | exact Take.head _ _ | apply Take.tail)) ?_))
                          · refine ⟨?_, ?_, ?_, ?_, ?_, ?_, ?_, ?_, ?_, ?_, ?_, ?_, ?_, ?_, trivial⟩
                            · rintro vs es Es Hx -
                              refine TO.reenv (D := []) rfl ?_
                              refine TO.move rfl rfl rfl rfl ?_
                              refine TO.done ?_; exact X.obQ rfl ⟨rfl, rfl⟩ (Pick.refl _) rfl
                            · rintro vs es Es Hx -
                              refine TO.reenv (D := []) rfl ?_
                              refine TO.move rfl rfl rfl rfl ?_
                              refine TO.done ?_; exact X.obQ rfl ⟨rfl, rfl⟩ (Pick.refl _) rfl
                            · rintro vs es Es Hx -
                              refine TO.reenv (D := []) rfl ?_
                              refine TO.move rfl rfl rfl rfl ?_
                              refine TO.done ?_; exact X.obQ rfl ⟨rfl, rfl⟩ (Pick.refl _) rfl
                            · rintro vs es Es Hx ⟨⟨h_1, e_1⟩, ⟨h_2, e_2⟩, -⟩
                              refine TO.reenv (D := [(162, vs 1), (163, vs 2)]) rfl ?_; rw [h_1, h_2]
                              refine TO.ixV hz38 hc36 hn35 g138 rfl rfl rfl rfl rfl TWLFlowSends.l54 TWLFlowSends.n60 ?_
                              refine TO.done ?_; exact X.obQ rfl ⟨rfl, rfl⟩ (Pick.refl _) (by show [(162, vs 1), (163, vs 2)] = _; rw [h_1, h_2])
                            · rintro vs es Es Hx ⟨⟨h_1, e_1⟩, ⟨h_2, e_2⟩, ⟨h_3, e_3⟩, -⟩
                              refine TO.reenv (D := [(162, vs 1), (163, vs 2), (164, vs 3)]) rfl ?_; rw [h_1, h_2, h_3]
                              refine TO.faR rfl rfl rfl rfl TWLFlowSends.f60_0 ?_
                              refine TO.done ?_; exact X.obQ rfl ⟨rfl, rfl⟩ (Pick.refl _) (by show [(162, vs 1), (163, vs 2), (164, vs 3)] = _; rw [h_1, h_2, h_3])
                            · rintro vs es Es Hx ⟨⟨h_1, e_1⟩, ⟨h_2, e_2⟩, ⟨h_3, e_3⟩, ⟨h_4, e_4⟩, -⟩
                              refine TO.reenv (D := [(162, vs 1), (163, vs 2), (164, vs 3), (165, vs 4)]) rfl ?_; rw [h_1, h_2, h_3, h_4]
                              refine TO.ldFV (f := hopC) (v := .int .i64 ((r28.getD i136.toNat default).Arc)) default (fun _ => rfl) hz38 hc36 hn35 g138 rfl rfl rfl rfl rfl TWLFlowSends.s3 (List.Mem.tail _ (List.Mem.tail _ (List.Mem.tail _ (List.Mem.head _)))) ?_
                              refine TO.done ?_; exact X.obQ rfl ⟨rfl, rfl⟩ (Pick.refl _) (by show [(162, vs 1), (163, vs 2), (164, vs 3), (165, vs 4)] = _; rw [h_1, h_2, h_3, h_4])
                            · rintro vs es Es Hx -
                              refine TO.reenv (D := []) rfl ?_
                              refine TO.move rfl rfl rfl rfl ?_
                              refine TO.done ?_; exact X.obQ rfl ⟨rfl, rfl⟩ (Pick.refl _) rfl
                            · rintro vs es Es Hx -
                              refine TO.reenv (D := []) rfl ?_
                              refine TO.move rfl rfl rfl rfl ?_
                              refine TO.done ?_; exact X.obQ rfl ⟨rfl, rfl⟩ (Pick.refl _) rfl
                            · rintro vs es Es Hx ⟨⟨h_6, e_6⟩, ⟨h_7, e_7⟩, -⟩
                              refine TO.reenv (D := [(167, vs 6), (168, vs 7)]) rfl ?_; rw [h_6, h_7]
                              refine TO.ixV hz38 hc36 hn35 g139 rfl rfl rfl rfl rfl TWLFlowSends.l54 TWLFlowSends.n60 ?_
                              refine TO.done ?_; exact X.obQ rfl ⟨rfl, rfl⟩ (Pick.refl _) (by show [(167, vs 6), (168, vs 7)] = _; rw [h_6, h_7])
                            · rintro vs es Es Hx ⟨⟨h_6, e_6⟩, ⟨h_7, e_7⟩, ⟨h_8, e_8⟩, -⟩
                              refine TO.reenv (D := [(167, vs 6), (168, vs 7), (169, vs 8)]) rfl ?_; rw [h_6, h_7, h_8]
                              refine TO.faR rfl rfl rfl rfl TWLFlowSends.f60_1 ?_
                              refine TO.done ?_; exact X.obQ rfl ⟨rfl, rfl⟩ (Pick.refl _) (by show [(167, vs 6), (168, vs 7), (169, vs 8)] = _; rw [h_6, h_7, h_8])
                            · rintro vs es Es Hx ⟨⟨h_6, e_6⟩, ⟨h_7, e_7⟩, ⟨h_8, e_8⟩, ⟨h_9, e_9⟩, -⟩
                              refine TO.reenv (D := [(167, vs 6), (168, vs 7), (169, vs 8), (170, vs 9)]) rfl ?_; rw [h_6, h_7, h_8, h_9]
                              refine TO.ldFV (f := hopC) (v := .bool ((r28.getD i136.toNat default).Back)) default (fun _ => rfl) hz38 hc36 hn35 g139 rfl rfl rfl rfl rfl TWLFlowSends.s4 (List.Mem.tail _ (List.Mem.tail _ (List.Mem.tail _ (List.Mem.head _)))) ?_
                              refine TO.done ?_; exact X.obQ rfl ⟨rfl, rfl⟩ (Pick.refl _) (by show [(167, vs 6), (168, vs 7), (169, vs 8), (170, vs 9)] = _; rw [h_6, h_7, h_8, h_9])
                            · rintro vs es Es Hx ⟨⟨h_10, e_10⟩, -⟩
                              refine TO.reenv (D := [(171, vs 10)]) rfl ?_; rw [h_10]
                              refine TO.not rfl rfl rfl rfl ?_
                              refine TO.done ?_; exact X.obQ rfl ⟨rfl, rfl⟩ (Pick.refl _) (by show [(171, vs 10)] = _; rw [h_10])
                            · rintro vs es Es Hx ⟨⟨h_5, e_5⟩, ⟨h_11, e_11⟩, -⟩
                              refine TO.reenv (D := [(166, vs 5), (172, vs 11)]) rfl ?_; rw [h_5, h_11]
                              refine TO.buildS (t := 60) [.int .i64 0, .bool false] [0, 1] rfl rfl rfl rfl (by simp only [setAll, setCells, Value.cells, List.toList_toArray, List.getD_cons_zero, List.getD_cons_succ, List.set_cons_zero, List.set_cons_succ]; rfl) (by kernel_rfl) ?_
                              refine TO.done ?_; exact X.obQ rfl ⟨rfl, rfl⟩ (Pick.refl _) (by show [(166, vs 5), (172, vs 11)] = _; rw [h_5, h_11])
                            · rintro vs es Es Hx ⟨⟨h_12, e_12⟩, -⟩
                              refine TO.reenv (D := [(173, vs 12)]) rfl ?_; rw [h_12]
                              refine TO.buildSliceS [.int .i64 0, .bool false] [0] rfl rfl rfl rfl TWLFlowSends.l54 TWLFlowSends.n60 TWLFlowSends.z60 rfl rfl (by simp only [setAll, setCells, Value.cells, List.toList_toArray, List.getD_cons_zero, List.getD_cons_succ, List.set_cons_zero, List.set_cons_succ]; rfl) (by kernel_rfl) ?_; intro b140
                              refine TO.done ?_; exact X.obQ rfl ⟨b140, rfl, rfl⟩ (by repeat (first | exact Pick.refl _ | exact Pick.nil | apply Pick.none | refine Pick.cons (by repeat (first | exact Take.head _ _ | apply Take.tail)) ?_)) (by show [(173, vs 12)] = _; rw [h_12])
                          · rintro vs es hb ⟨⟨h_0, e_0⟩, ⟨h_1, e_1⟩, ⟨h_2, e_2⟩, ⟨h_3, e_3⟩, ⟨h_4, e_4⟩, ⟨h_5, e_5⟩, ⟨h_6, e_6⟩, ⟨h_7, e_7⟩, ⟨h_8, e_8⟩, ⟨h_9, e_9⟩, ⟨h_10, e_10⟩, ⟨h_11, e_11⟩, ⟨h_12, e_12⟩, ⟨b140, h_13, e_13⟩, -⟩ hHR
                            obtain rfl : hb = [] := hHR
                            refine TO.reenv (D := [(161, vs 0), (162, vs 1), (163, vs 2), (164, vs 3), (165, vs 4), (166, vs 5), (167, vs 6), (168, vs 7), (169, vs 8), (170, vs 9), (171, vs 10), (172, vs 11), (173, vs 12), (174, vs 13)]) rfl ?_
                            refine TO.reheap (H := [(some b1, .cells #[.int .i64 r3.N, .int .i64 r3.S, .int .i64 r3.T, .slice (sb ob5) n6 c7] 24 (0, 0)), (ob5, .cells (arr arcC r3.Arcs j8).toArray 28 (0, 0)), (ob16, .cells (arr (intC .i64) r14 j19).toArray 2 (0, 0)), (ob31, .cells (arr hopC r28 j34).toArray 60 (0, 0)), (ob53, .cells (arr (intC .i64) r50 j56).toArray 2 (0, 0)), (ob96, .cells (arr (intC .i64) ((r93.set (from2.tmod r3.N).toNat ((r93.getD (from2.tmod r3.N).toNat 0) - (d4.tmod (r40 + 1)))).set r29.toNat (((r93.set (from2.tmod r3.N).toNat ((r93.getD (from2.tmod r3.N).toNat 0) - (d4.tmod (r40 + 1)))).getD r29.toNat 0) + (d4.tmod (r40 + 1)))) j99).toArray 2 (0, 0)), (ob108, .cells (arr (intC .i64) r105 j111).toArray 2 (0, 0)), (ob129, .cells (arr hopC back126 j130).toArray 60 (0, 0)), (some b140, .cells (arr hopC ([(Hop.mk ((r28.getD i136.toNat default).Arc) (!(r28.getD i136.toNat default).Back))]) ([])).toArray 60 (0, 0))]) (by show _ ++ (_ ++ (es 0 ++ (es 1 ++ (es 2 ++ (es 3 ++ (es 4 ++ (es 5 ++ (es 6 ++ (es 7 ++ (es 8 ++ (es 9 ++ (es 10 ++ (es 11 ++ (es 12 ++ (es 13 ++ ([])))))))))))))))) = _; rw [e_0, e_1, e_2, e_3, e_4, e_5, e_6, e_7, e_8, e_9, e_10, e_11, e_12, e_13]; rfl) ?_
                            rw [h_0, h_1, h_2, h_3, h_4, h_5, h_6, h_7, h_8, h_9, h_10, h_11, h_12, h_13]
                            clear h_13 h_12 h_11 h_10 h_9 h_8 h_7 h_6 h_5 h_4 h_3 h_2 h_1 h_0 e_0 e_1 e_2 e_3 e_4 e_5 e_6 e_7 e_8 e_9 e_10 e_11 e_12 e_13
                            refine TO.app (f := hopC) (s := 2) (xs := back126) (ob := ob129) (j := j130) (ys := [(Hop.mk ((r28.getD i136.toNat default).Arc) (!(r28.getD i136.toNat default).Back))]) (fun _ => rfl) (fun _ => rfl) TWLFlowSendsel54 g142 rfl rfl rfl rfl rfl (Take.tail (Take.tail (Take.tail (Take.tail (Take.tail (Take.tail (Take.tail (Take.head _ _)))))))) hn131 hc132 hj133 hz134 (fun wc hwc => (hwc.rs (f := hopC) (s := 2) (xs := [(Hop.mk ((r28.getD i136.toNat default).Arc) (!(r28.getD i136.toNat default).Back))]) (j := ([])) (fun _ => rfl) (List.Mem.tail _ (List.Mem.tail _ (List.Mem.tail _ (List.Mem.tail _ (List.Mem.tail _ (List.Mem.tail _ (List.Mem.tail _ (List.Mem.tail _ (List.Mem.head _))))))))) rfl (Nat.le_refl _) someZ)) ?_; intro ob143 c144 j145 hc146 hj147 hz148
                            refine TO.assign rfl rfl rfl rfl ?_
                            refine TO.done ?_
                            refine X.block_normal ?_
                            refine X.seq_normal ?_
                            obtain ⟨g150, H⟩ := gd_some H
                            refine T.regionL (ll := [0, 1, 2]) rfl ?_
                            refine TO.move rfl rfl rfl rfl ?_
                            refine TO.subG g150 rfl rfl rfl rfl rfl ?_
                            refine TO.assign rfl rfl rfl rfl ?_
                            refine TO.done ?_
                            have H := loop_next H C_1
                            exact X.againE7 n_1 (back126 ++ ([(Hop.mk ((r28.getD i136.toNat default).Arc) (!(r28.getD i136.toNat default).Back))])) (n127 + 1) c144 ob143 j145 (i136 - 1) ⟨H, (lenApp hn131 rfl), hc146, hj147, hz148⟩ (Nat.lt_succ_self _) (AllF.cons rfl (AllF.cons rfl (AllF.cons rfl (AllF.cons rfl (AllF.cons rfl (AllF.cons rfl (AllF.cons rfl (AllF.cons rfl (AllF.cons rfl AllF.nil))))))))) (Pick.cons (Take.tail (Take.head _ _)) (Pick.cons (Take.tail (Take.head _ _)) (Pick.cons (Take.tail (Take.head _ _)) (Pick.cons (Take.tail (Take.head _ _)) (Pick.cons (Take.tail (Take.head _ _)) (Pick.cons (Take.tail (Take.head _ _)) (Pick.cons (Take.tail (Take.head _ _)) (Pick.cons (Take.head _ _) Pick.nil))))))))
                        ·
                          refine T.condPF rfl g137 ?_
                          refine T.exit ?_
                          refine X.then_exit ?_
                          have H := loop_exitE H C_1 ▸ K_1
                          refine X.then_exit ?_
                          refine X.block_here ?_
                          exact X.metE5 back126 n127 c128 ob129 j130 ⟨H, hn131, hc132, hj133, hz134⟩ (AllF.cons rfl (AllF.cons rfl (AllF.cons rfl (AllF.cons rfl (AllF.cons rfl (AllF.cons rfl (AllF.cons rfl AllF.nil))))))) (Pick.cons (Take.head _ _) (Pick.cons (Take.head _ _) (Pick.cons (Take.head _ _) (Pick.cons (Take.tail (Take.head _ _)) (Pick.cons (Take.tail (Take.head _ _)) (Pick.cons (Take.tail (Take.head _ _)) (Pick.cons (Take.tail (Take.head _ _)) Pick.nil)))))))
                      · rintro back151 n152 c153 ob154 j155 ⟨H, hn156, hc157, hj158, hz159⟩
                        unfold m_acequialaw03_FlowSends_j2 at H
                        refine T.seq ?_
                        obtain ⟨⟨r161, r162⟩, e163, H⟩ := bd_some H
                        refine T.regionL (ll := [0, 1, 2, 3, 4, 5, 6, 7, 8, 9]) rfl ?_
                        refine TO.loadA rfl rfl rfl rfl TWLFlowSends.a24 (List.Mem.head _) rfl ?_
                        refine TO.move rfl rfl rfl rfl ?_
                        refine TO.move rfl rfl rfl rfl ?_
                        refine TO.move rfl rfl rfl rfl ?_
                        refine TO.callX TWLFlowSends.c35 rfl rfl rfl rfl (fun wc hwc => w_flow_Send (n0 := r3) (f1 := r50) (l2 := back151) (d3 := (d4.tmod (r40 + 1))) wc (hwc.rs (f := arcC) (s := 3) (xs := r3.Arcs) (j := j8) (fun _ => rfl) (List.Mem.tail _ (List.Mem.head _)) hn9 hc10 hz12) (hwc.rs (f := (intC .i64)) (s := 1) (xs := r50) (j := j56) (fun _ => rfl) (List.Mem.tail _ (List.Mem.tail _ (List.Mem.tail _ (List.Mem.head _)))) hn57 hc58 hz60) (hwc.rs (f := hopC) (s := 2) (xs := back151) (j := j155) (fun _ => rfl) (List.Mem.tail _ (List.Mem.tail _ (List.Mem.tail _ (List.Mem.tail _ (List.Mem.tail _ (List.Mem.tail _ (List.Mem.head _))))))) hn156 hc157 hz159) e163) ?_
                        rintro _ _ ⟨ob164, n165, c166, j167, rfl, rfl, hn168, hc169, hj170, hz171⟩
                        refine TO.move rfl rfl rfl rfl ?_
                        refine TO.extract rfl rfl rfl rfl rfl ?_
                        refine TO.extract rfl rfl rfl rfl rfl ?_
                        refine TO.assign rfl rfl rfl rfl ?_
                        refine TO.assign rfl rfl rfl rfl ?_
                        refine TO.done ?_
                        refine X.seq_normal ?_
                        refine T.seq ?_
                        obtain ⟨r173, e174, H⟩ := bd_some H
                        rcases ite_some H with ⟨g175, H⟩ | ⟨g175, H⟩
                        ·
                          rcases ite_some H with ⟨g176, H⟩ | ⟨g176, H⟩
                          ·
                            obtain ⟨r177, e178, H⟩ := bd_some H
                            rcases ite_some H with ⟨g179, H⟩ | ⟨g179, H⟩
                            ·
                              obtain ⟨r180, e181, H⟩ := bd_some H
                              refine T.regionL (ll := [0, 1, 2, 3, 4, 5, 6, 7, 8, 9, 10, 11, 12, 13, 14, 15]) rfl ?_
                              refine TO.move rfl rfl rfl rfl ?_
                              refine TO.move rfl rfl rfl rfl ?_
                              refine TO.callX TWLFlowSends.c25 rfl rfl rfl rfl (fun wc hwc => w_acequialow_Longs (a0 := ((r93.set (from2.tmod r3.N).toNat ((r93.getD (from2.tmod r3.N).toNat 0) - (d4.tmod (r40 + 1)))).set r29.toNat (((r93.set (from2.tmod r3.N).toNat ((r93.getD (from2.tmod r3.N).toNat 0) - (d4.tmod (r40 + 1)))).getD r29.toNat 0) + (d4.tmod (r40 + 1))))) (b1 := r105) wc (hwc.rs (f := (intC .i64)) (s := 1) (xs := ((r93.set (from2.tmod r3.N).toNat ((r93.getD (from2.tmod r3.N).toNat 0) - (d4.tmod (r40 + 1)))).set r29.toNat (((r93.set (from2.tmod r3.N).toNat ((r93.getD (from2.tmod r3.N).toNat 0) - (d4.tmod (r40 + 1)))).getD r29.toNat 0) + (d4.tmod (r40 + 1))))) (j := j99) (fun _ => rfl) (List.Mem.tail _ (List.Mem.tail _ (List.Mem.tail _ (List.Mem.tail _ (List.Mem.tail _ (List.Mem.head _)))))) (List.length_set.trans (List.length_set.trans hn100)) hc101 hz103) (hwc.rs (f := (intC .i64)) (s := 1) (xs := r105) (j := j111) (fun _ => rfl) (List.Mem.tail _ (List.Mem.tail _ (List.Mem.tail _ (List.Mem.tail _ (List.Mem.tail _ (List.Mem.tail _ (List.Mem.head _))))))) hn112 hc113 hz115) e174) ?_
                              rintro _ _ ⟨rfl, rfl⟩
                              refine TO.move rfl rfl rfl rfl ?_
                              refine TO.decB (t := 187) (b' := true) rfl g175 ?_
                              refine TO.move rfl rfl rfl rfl ?_
                              refine TO.bin rfl rfl rfl rfl rfl rfl ?_
                              refine TO.pickT rfl rfl rfl rfl rfl ?_
                              refine TO.move rfl rfl rfl rfl ?_
                              refine TO.decB (t := 191) (b' := true) rfl (decide_eq_true g176) ?_
                              refine TO.move rfl rfl rfl rfl ?_
                              refine TO.move rfl rfl rfl rfl ?_
                              refine TO.callX TWLFlowSends.c25 rfl rfl rfl rfl (fun wc hwc => w_acequialow_Longs (a0 := r161) (b1 := r14) wc (hwc.rs (f := (intC .i64)) (s := 1) (xs := r161) (j := j167) (fun _ => rfl) (List.Mem.head _) hn168 hc169 hz171) (hwc.rs (f := (intC .i64)) (s := 1) (xs := r14) (j := j19) (fun _ => rfl) (List.Mem.tail _ (List.Mem.tail _ (List.Mem.tail _ (List.Mem.head _)))) hn20 hc21 hz23) e178) ?_
                              rintro _ _ ⟨rfl, rfl⟩
                              refine TO.pickT rfl rfl rfl rfl rfl ?_
                              refine TO.move rfl rfl rfl rfl ?_
                              refine TO.decB (t := 196) (b' := true) rfl g179 ?_
                              refine TO.callX TWLFlowSends.c32 rfl rfl rfl rfl (fun wc hwc => w_acequialaw03_awake  wc  e181) ?_
                              rintro _ _ ⟨rfl, rfl⟩
                              refine TO.pickT rfl rfl rfl rfl rfl ?_
                              refine TO.assign rfl rfl rfl rfl ?_
                              refine TO.done ?_
                              refine X.seq_normal ?_
                              refine T.ret ?_
                              obtain rfl := ret1 H
                              exact X.ret1 rfl rfl rfl rfl (Res.tmp rfl) Pick.nil ⟨rfl, rfl⟩
                            ·
                              refine T.regionL (ll := [0, 1, 2, 3, 4, 5, 6, 7, 8, 9, 10, 11, 12, 13, 14, 15]) rfl ?_
                              refine TO.move rfl rfl rfl rfl ?_
                              refine TO.move rfl rfl rfl rfl ?_
                              refine TO.callX TWLFlowSends.c25 rfl rfl rfl rfl (fun wc hwc => w_acequialow_Longs (a0 := ((r93.set (from2.tmod r3.N).toNat ((r93.getD (from2.tmod r3.N).toNat 0) - (d4.tmod (r40 + 1)))).set r29.toNat (((r93.set (from2.tmod r3.N).toNat ((r93.getD (from2.tmod r3.N).toNat 0) - (d4.tmod (r40 + 1)))).getD r29.toNat 0) + (d4.tmod (r40 + 1))))) (b1 := r105) wc (hwc.rs (f := (intC .i64)) (s := 1) (xs := ((r93.set (from2.tmod r3.N).toNat ((r93.getD (from2.tmod r3.N).toNat 0) - (d4.tmod (r40 + 1)))).set r29.toNat (((r93.set (from2.tmod r3.N).toNat ((r93.getD (from2.tmod r3.N).toNat 0) - (d4.tmod (r40 + 1)))).getD r29.toNat 0) + (d4.tmod (r40 + 1))))) (j := j99) (fun _ => rfl) (List.Mem.tail _ (List.Mem.tail _ (List.Mem.tail _ (List.Mem.tail _ (List.Mem.tail _ (List.Mem.head _)))))) (List.length_set.trans (List.length_set.trans hn100)) hc101 hz103) (hwc.rs (f := (intC .i64)) (s := 1) (xs := r105) (j := j111) (fun _ => rfl) (List.Mem.tail _ (List.Mem.tail _ (List.Mem.tail _ (List.Mem.tail _ (List.Mem.tail _ (List.Mem.tail _ (List.Mem.head _))))))) hn112 hc113 hz115) e174) ?_
                              rintro _ _ ⟨rfl, rfl⟩
                              refine TO.move rfl rfl rfl rfl ?_
                              refine TO.decB (t := 187) (b' := true) rfl g175 ?_
                              refine TO.move rfl rfl rfl rfl ?_
                              refine TO.bin rfl rfl rfl rfl rfl rfl ?_
                              refine TO.pickT rfl rfl rfl rfl rfl ?_
                              refine TO.move rfl rfl rfl rfl ?_
                              refine TO.decB (t := 191) (b' := true) rfl (decide_eq_true g176) ?_
                              refine TO.move rfl rfl rfl rfl ?_
                              refine TO.move rfl rfl rfl rfl ?_
                              refine TO.callX TWLFlowSends.c25 rfl rfl rfl rfl (fun wc hwc => w_acequialow_Longs (a0 := r161) (b1 := r14) wc (hwc.rs (f := (intC .i64)) (s := 1) (xs := r161) (j := j167) (fun _ => rfl) (List.Mem.head _) hn168 hc169 hz171) (hwc.rs (f := (intC .i64)) (s := 1) (xs := r14) (j := j19) (fun _ => rfl) (List.Mem.tail _ (List.Mem.tail _ (List.Mem.tail _ (List.Mem.head _)))) hn20 hc21 hz23) e178) ?_
                              rintro _ _ ⟨rfl, rfl⟩
                              refine TO.pickT rfl rfl rfl rfl rfl ?_
                              refine TO.move rfl rfl rfl rfl ?_
                              refine TO.decB (t := 196) (b' := false) rfl (Bool.eq_false_iff.2 g179) ?_
                              refine TO.shut rfl rfl rfl rfl ?_
                              refine TO.pickF rfl rfl rfl rfl rfl ?_
                              refine TO.assign rfl rfl rfl rfl ?_
                              refine TO.done ?_
                              refine X.seq_normal ?_
                              refine T.ret ?_
                              obtain rfl := ret1 H
                              exact X.ret1 rfl rfl rfl rfl (Res.tmp rfl) Pick.nil ⟨rfl, rfl⟩
                          ·
                            refine T.regionL (ll := [0, 1, 2, 3, 4, 5, 6, 7, 8, 9, 10, 11, 12, 13, 14, 15]) rfl ?_
                            refine TO.move rfl rfl rfl rfl ?_
                            refine TO.move rfl rfl rfl rfl ?_
                            refine TO.callX TWLFlowSends.c25 rfl rfl rfl rfl (fun wc hwc => w_acequialow_Longs (a0 := ((r93.set (from2.tmod r3.N).toNat ((r93.getD (from2.tmod r3.N).toNat 0) - (d4.tmod (r40 + 1)))).set r29.toNat (((r93.set (from2.tmod r3.N).toNat ((r93.getD (from2.tmod r3.N).toNat 0) - (d4.tmod (r40 + 1)))).getD r29.toNat 0) + (d4.tmod (r40 + 1))))) (b1 := r105) wc (hwc.rs (f := (intC .i64)) (s := 1) (xs := ((r93.set (from2.tmod r3.N).toNat ((r93.getD (from2.tmod r3.N).toNat 0) - (d4.tmod (r40 + 1)))).set r29.toNat (((r93.set (from2.tmod r3.N).toNat ((r93.getD (from2.tmod r3.N).toNat 0) - (d4.tmod (r40 + 1)))).getD r29.toNat 0) + (d4.tmod (r40 + 1))))) (j := j99) (fun _ => rfl) (List.Mem.tail _ (List.Mem.tail _ (List.Mem.tail _ (List.Mem.tail _ (List.Mem.tail _ (List.Mem.head _)))))) (List.length_set.trans (List.length_set.trans hn100)) hc101 hz103) (hwc.rs (f := (intC .i64)) (s := 1) (xs := r105) (j := j111) (fun _ => rfl) (List.Mem.tail _ (List.Mem.tail _ (List.Mem.tail _ (List.Mem.tail _ (List.Mem.tail _ (List.Mem.tail _ (List.Mem.head _))))))) hn112 hc113 hz115) e174) ?_
                            rintro _ _ ⟨rfl, rfl⟩
                            refine TO.move rfl rfl rfl rfl ?_
                            refine TO.decB (t := 187) (b' := true) rfl g175 ?_
                            refine TO.move rfl rfl rfl rfl ?_
                            refine TO.bin rfl rfl rfl rfl rfl rfl ?_
                            refine TO.pickT rfl rfl rfl rfl rfl ?_
                            refine TO.move rfl rfl rfl rfl ?_
                            refine TO.decB (t := 191) (b' := false) rfl (decide_eq_false g176) ?_
                            refine TO.shut rfl rfl rfl rfl ?_
                            refine TO.shut rfl rfl rfl rfl ?_
                            refine TO.shut rfl rfl rfl rfl ?_
                            refine TO.pickF rfl rfl rfl rfl rfl ?_
                            refine TO.move rfl rfl rfl rfl ?_
                            refine TO.shut rfl rfl rfl rfl ?_
                            refine TO.pickF rfl rfl rfl rfl rfl ?_
                            refine TO.assign rfl rfl rfl rfl ?_
                            refine TO.done ?_
                            refine X.seq_normal ?_
                            refine T.ret ?_
                            obtain rfl := ret1 H
                            exact X.ret1 rfl rfl rfl rfl (Res.tmp rfl) Pick.nil ⟨rfl, rfl⟩
                        ·
                          refine T.regionL (ll := [0, 1, 2, 3, 4, 5, 6, 7, 8, 9, 10, 11, 12, 13, 14, 15]) rfl ?_
                          refine TO.move rfl rfl rfl rfl ?_
                          refine TO.move rfl rfl rfl rfl ?_
                          refine TO.callX TWLFlowSends.c25 rfl rfl rfl rfl (fun wc hwc => w_acequialow_Longs (a0 := ((r93.set (from2.tmod r3.N).toNat ((r93.getD (from2.tmod r3.N).toNat 0) - (d4.tmod (r40 + 1)))).set r29.toNat (((r93.set (from2.tmod r3.N).toNat ((r93.getD (from2.tmod r3.N).toNat 0) - (d4.tmod (r40 + 1)))).getD r29.toNat 0) + (d4.tmod (r40 + 1))))) (b1 := r105) wc (hwc.rs (f := (intC .i64)) (s := 1) (xs := ((r93.set (from2.tmod r3.N).toNat ((r93.getD (from2.tmod r3.N).toNat 0) - (d4.tmod (r40 + 1)))).set r29.toNat (((r93.set (from2.tmod r3.N).toNat ((r93.getD (from2.tmod r3.N).toNat 0) - (d4.tmod (r40 + 1)))).getD r29.toNat 0) + (d4.tmod (r40 + 1))))) (j := j99) (fun _ => rfl) (List.Mem.tail _ (List.Mem.tail _ (List.Mem.tail _ (List.Mem.tail _ (List.Mem.tail _ (List.Mem.head _)))))) (List.length_set.trans (List.length_set.trans hn100)) hc101 hz103) (hwc.rs (f := (intC .i64)) (s := 1) (xs := r105) (j := j111) (fun _ => rfl) (List.Mem.tail _ (List.Mem.tail _ (List.Mem.tail _ (List.Mem.tail _ (List.Mem.tail _ (List.Mem.tail _ (List.Mem.head _))))))) hn112 hc113 hz115) e174) ?_
                          rintro _ _ ⟨rfl, rfl⟩
                          refine TO.move rfl rfl rfl rfl ?_
                          refine TO.decB (t := 187) (b' := false) rfl (Bool.eq_false_iff.2 g175) ?_
                          refine TO.shut rfl rfl rfl rfl ?_
                          refine TO.shut rfl rfl rfl rfl ?_
                          refine TO.pickF rfl rfl rfl rfl rfl ?_
                          refine TO.move rfl rfl rfl rfl ?_
                          refine TO.shut rfl rfl rfl rfl ?_
                          refine TO.shut rfl rfl rfl rfl ?_
                          refine TO.shut rfl rfl rfl rfl ?_
                          refine TO.pickF rfl rfl rfl rfl rfl ?_
                          refine TO.move rfl rfl rfl rfl ?_
                          refine TO.shut rfl rfl rfl rfl ?_
                          refine TO.pickF rfl rfl rfl rfl rfl ?_
                          refine TO.assign rfl rfl rfl rfl ?_
                          refine TO.done ?_
                          refine X.seq_normal ?_
                          refine T.ret ?_
                          obtain rfl := ret1 H
                          exact X.ret1 rfl rfl rfl rfl (Res.tmp rfl) Pick.nil ⟨rfl, rfl⟩
end Go.Proofs.Ytcdbemdogkmahaa.Ax
