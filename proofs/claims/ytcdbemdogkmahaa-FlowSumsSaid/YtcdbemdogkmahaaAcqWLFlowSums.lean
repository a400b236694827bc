/- What a call does is what its model says: acequialaw03.FlowSums. (Printed by sx.py.) -/
import Derived.Test.YtcdbemdogkmahaaAcqMLFlowSums
import Derived.Test.YtcdbemdogkmahaaAcqMaps
import Derived.Test.YtcdbemdogkmahaaAcqWS3
namespace Go.Proofs.Ytcdbemdogkmahaa.Ax
open Go Go.Acq Go.RowKit Go.Proofs
set_option linter.unusedVariables false
set_option linter.unusedSimpArgs false
set_option maxHeartbeats 8000000
theorem TWLFlowSums.a24 : aggT Try.prog 24 4 = true := by kernel_rfl
theorem TWLFlowSums.c17 : callable Try.prog 17 = true := by kernel_rfl
theorem TWLFlowSums.c18 : callable Try.prog 18 = true := by kernel_rfl
theorem TWLFlowSums.c27 : callable Try.prog 27 = true := by kernel_rfl
theorem TWLFlowSums.c28 : callable Try.prog 28 = true := by kernel_rfl
theorem TWLFlowSums.c29 : callable Try.prog 29 = true := by kernel_rfl
theorem TWLFlowSums.c30 : callable Try.prog 30 = true := by kernel_rfl
theorem TWLFlowSums.c31 : callable Try.prog 31 = true := by kernel_rfl
theorem TWLFlowSums.c32 : callable Try.prog 32 = true := by kernel_rfl
theorem TWLFlowSums.f24_0 : fieldT Try.prog 24 0 = some 0 := by kernel_rfl
theorem TWLFlowSums.f24_1 : fieldT Try.prog 24 1 = some 1 := by kernel_rfl
theorem TWLFlowSums.f24_2 : fieldT Try.prog 24 2 = some 2 := by kernel_rfl
theorem TWLFlowSums.l25 : sliceT Try.prog 25 = some 2 := by kernel_rfl
theorem TWLFlowSums.n2 : sizeT Try.prog 2 = some 1 := by kernel_rfl
theorem TWLFlowSums.n24 : sizeT Try.prog 24 = some 4 := by kernel_rfl
theorem TWLFlowSums.s2 : scalT Try.prog 2 = true := by kernel_rfl
theorem TWLFlowSums.s3 : scalT Try.prog 3 = true := by kernel_rfl
theorem TWLFlowSums.u4 : Try.prog.underlying 4 = some .bool := by kernel_rfl

/-- acequia/acequialaw03.FlowSums -/
theorem w_acequialaw03_FlowSums {n0 : Net} {l1 : List Int} {n0_Arcs_b : Option Addr} {n0_Arcs_n : Nat} {n0_Arcs_c : Nat} {l1_b : Option Addr} {l1_n : Nat} {l1_c : Nat} (w : World) (h_n0_Arcs : RS w [] arcC 3 n0_Arcs_b n0_Arcs_n n0_Arcs_c n0.Arcs) (h_l1 : RS w [] (intC .i64) 1 l1_b l1_n l1_c l1) {r0 : Bool} (H : m_acequialaw03_FlowSums n0 l1 = some r0) : Fnc Try.prog 6 #[.agg #[.int .i64 n0.N, .int .i64 n0.S, .int .i64 n0.T, .slice n0_Arcs_b n0_Arcs_n n0_Arcs_c], .slice l1_b l1_n l1_c] w [] (fun v N => v = .bool r0 ∧ N = []) := by
  unfold m_acequialaw03_FlowSums at H
  refine Fnc.enter (vs := [.agg #[.int .i64 n0.N, .int .i64 n0.S, .int .i64 n0.T, .slice n0_Arcs_b n0_Arcs_n n0_Arcs_c], .slice l1_b l1_n l1_c]) Try.func6 rfl rfl (Inv.refl w) ?_
  refine T.seq ?_
  refine T.regionL (ll := [0, 1]) rfl ?_
  refine TO.boxA rfl rfl rfl rfl ?_; intro b1
  refine TO.assign rfl rfl rfl rfl ?_
  refine TO.done ?_
  refine X.seq_normal ?_
  refine T.seq ?_
  obtain ⟨r3, e4, H⟩ := bd_some H
  refine T.regionL (ll := [0, 1, 2]) rfl ?_
  refine TO.loadA rfl rfl rfl rfl TWLFlowSums.a24 (List.Mem.head _) rfl ?_
  refine TO.callX TWLFlowSums.c17 rfl rfl rfl rfl (fun wc hwc => w_acequialow_Some (n0 := n0) (verts1 := 40) (arcs2 := 80) wc (h_n0_Arcs.mono hwc) e4) ?_
  rintro _ _ ⟨ob5, n6, c7, j8, rfl, rfl, hn9, hc10, hj11, hz12⟩
  refine TO.storeA rfl rfl rfl rfl (Take.tail (Take.head _ _)) TWLFlowSums.n24 rfl rfl rfl ?_
  refine TO.done ?_
  refine X.seq_normal ?_
  refine T.seq ?_
  obtain ⟨r14, e15, H⟩ := bd_some H
  refine T.regionL (ll := [0, 1, 2, 3]) rfl ?_
  refine TO.loadA rfl rfl rfl rfl TWLFlowSums.a24 (List.Mem.head _) rfl ?_
  refine TO.move rfl rfl rfl rfl ?_
  refine TO.callX TWLFlowSums.c18 rfl rfl rfl rfl (fun wc hwc => w_acequialow_Within (n0 := r3) (l1 := l1) wc (hwc.rs (f := arcC) (s := 3) (xs := r3.Arcs) (j := j8) (fun _ => rfl) (List.Mem.tail _ (List.Mem.head _)) hn9 hc10 hz12) (h_l1.mono hwc) e15) ?_
  rintro _ _ ⟨ob16, n17, c18, j19, rfl, rfl, hn20, hc21, hj22, hz23⟩
  refine TO.assign rfl rfl rfl rfl ?_
  refine TO.done ?_
  refine X.seq_normal ?_
  refine T.seq ?_
  obtain ⟨⟨r25, r26⟩, e27, H⟩ := bd_some H
  refine T.regionL (ll := [0, 1, 2, 3, 4, 5, 6, 7]) rfl ?_
  refine TO.loadA rfl rfl rfl rfl TWLFlowSums.a24 (List.Mem.tail _ (List.Mem.head _)) rfl ?_
  refine TO.move rfl rfl rfl rfl ?_
  refine TO.callX TWLFlowSums.c27 rfl rfl rfl rfl (fun wc hwc => w_flow_Excess (n0 := r3) (f1 := r14) wc (hwc.rs (f := arcC) (s := 3) (xs := r3.Arcs) (j := j8) (fun _ => rfl) (List.Mem.tail _ (List.Mem.tail _ (List.Mem.head _))) hn9 hc10 hz12) (hwc.rs (f := (intC .i64)) (s := 1) (xs := r14) (j := j19) (fun _ => rfl) (List.Mem.head _) hn20 hc21 hz23) e27) ?_
  rintro _ _ ⟨ob28, n29, c30, j31, rfl, rfl, hn32, hc33, hj34, hz35⟩
  refine TO.move rfl rfl rfl rfl ?_
  refine TO.extract rfl rfl rfl rfl rfl ?_
  refine TO.extract rfl rfl rfl rfl rfl ?_
  refine TO.assign rfl rfl rfl rfl ?_
  refine TO.assign rfl rfl rfl rfl ?_
  refine TO.done ?_
  refine X.seq_normal ?_
  refine T.seq ?_
  refine T.seq ?_
  rcases ite_some H with ⟨g37, H⟩ | ⟨g37, H⟩
  ·
    refine T.regionL (ll := [0, 1, 2, 3, 4, 5, 6, 7, 8, 9, 10, 11, 12, 13, 14]) rfl ?_
    refine TO.move rfl rfl rfl rfl ?_
    refine TO.bin rfl rfl rfl rfl rfl rfl ?_
    refine TO.move rfl rfl rfl rfl ?_
    refine TO.decB (t := 28) (b' := true) rfl (decide_eq_true g37) ?_
    refine TO.shut rfl rfl rfl rfl ?_
    refine TO.shut rfl rfl rfl rfl ?_
    refine TO.shut rfl rfl rfl rfl ?_
    refine TO.shut rfl rfl rfl rfl ?_
    refine TO.shut rfl rfl rfl rfl ?_
    refine TO.pickT rfl rfl rfl rfl rfl ?_
    refine TO.move rfl rfl rfl rfl ?_
    refine TO.shut rfl rfl rfl rfl ?_
    refine TO.shut rfl rfl rfl rfl ?_
    refine TO.shut rfl rfl rfl rfl ?_
    refine TO.shut rfl rfl rfl rfl ?_
    refine TO.pickT rfl rfl rfl rfl rfl ?_
    refine TO.done ?_
    refine X.seq_normal ?_
    refine T.condT rfl rfl ?_
    refine T.seq ?_
    refine T.regionL (ll := [0]) rfl ?_
    refine TO.assign rfl rfl rfl rfl ?_
    refine TO.done ?_
    refine X.seq_normal ?_
    refine T.ret ?_
    refine X.then_ret ?_
    obtain rfl := ret1 H
    exact X.ret1 rfl rfl rfl rfl (Res.tmp rfl) Pick.nil ⟨rfl, rfl⟩
  ·
    rcases ite_some H with ⟨g38, H⟩ | ⟨g38, H⟩
    ·
      refine T.regionL (ll := [0, 1, 2, 3, 4, 5, 6, 7, 8, 9, 10, 11, 12, 13, 14]) rfl ?_
      refine TO.move rfl rfl rfl rfl ?_
      refine TO.bin rfl rfl rfl rfl rfl rfl ?_
      refine TO.move rfl rfl rfl rfl ?_
      refine TO.decB (t := 28) (b' := false) rfl (decide_eq_false g37) ?_
      refine TO.move rfl rfl rfl rfl ?_
      refine TO.lenX (xs := r25) hn32 rfl rfl rfl rfl rfl TWLFlowSums.l25 ?_
      refine TO.fieldAddr0 rfl rfl rfl rfl TWLFlowSums.f24_0 ?_
      refine TO.load1 rfl rfl rfl rfl TWLFlowSums.s3 (List.Mem.tail _ (List.Mem.tail _ (List.Mem.head _))) rfl ?_
      refine TO.bin rfl rfl rfl rfl rfl rfl ?_
      refine TO.pickF rfl rfl rfl rfl rfl ?_
      refine TO.move rfl rfl rfl rfl ?_
      refine TO.decB (t := 35) (b' := true) rfl (decide_eq_true g38) ?_
      refine TO.shut rfl rfl rfl rfl ?_
      refine TO.shut rfl rfl rfl rfl ?_
      refine TO.shut rfl rfl rfl rfl ?_
      refine TO.shut rfl rfl rfl rfl ?_
      refine TO.pickT rfl rfl rfl rfl rfl ?_
      refine TO.done ?_
      refine X.seq_normal ?_
      refine T.condT rfl rfl ?_
      refine T.seq ?_
      refine T.regionL (ll := [0]) rfl ?_
      refine TO.assign rfl rfl rfl rfl ?_
      refine TO.done ?_
      refine X.seq_normal ?_
      refine T.ret ?_
      refine X.then_ret ?_
      obtain rfl := ret1 H
      exact X.ret1 rfl rfl rfl rfl (Res.tmp rfl) Pick.nil ⟨rfl, rfl⟩
    ·
      obtain ⟨r39, e40, H⟩ := bd_some H
      refine T.regionL (ll := [0, 1, 2, 3, 4, 5, 6, 7, 8, 9, 10, 11, 12, 13, 14]) rfl ?_
      refine TO.move rfl rfl rfl rfl ?_
      refine TO.bin rfl rfl rfl rfl rfl rfl ?_
      refine TO.move rfl rfl rfl rfl ?_
      refine TO.decB (t := 28) (b' := false) rfl (decide_eq_false g37) ?_
      refine TO.move rfl rfl rfl rfl ?_
      refine TO.lenX (xs := r25) hn32 rfl rfl rfl rfl rfl TWLFlowSums.l25 ?_
      refine TO.fieldAddr0 rfl rfl rfl rfl TWLFlowSums.f24_0 ?_
      refine TO.load1 rfl rfl rfl rfl TWLFlowSums.s3 (List.Mem.tail _ (List.Mem.tail _ (List.Mem.head _))) rfl ?_
      refine TO.bin rfl rfl rfl rfl rfl rfl ?_
      refine TO.pickF rfl rfl rfl rfl rfl ?_
      refine TO.move rfl rfl rfl rfl ?_
      refine TO.decB (t := 35) (b' := false) rfl (decide_eq_false g38) ?_
      refine TO.loadA rfl rfl rfl rfl TWLFlowSums.a24 (List.Mem.tail _ (List.Mem.tail _ (List.Mem.head _))) rfl ?_
      refine TO.move rfl rfl rfl rfl ?_
      refine TO.callX TWLFlowSums.c28 rfl rfl rfl rfl (fun wc hwc => w_flow_Within (n0 := r3) (f1 := r14) wc (hwc.rs (f := arcC) (s := 3) (xs := r3.Arcs) (j := j8) (fun _ => rfl) (List.Mem.tail _ (List.Mem.tail _ (List.Mem.tail _ (List.Mem.head _)))) hn9 hc10 hz12) (hwc.rs (f := (intC .i64)) (s := 1) (xs := r14) (j := j19) (fun _ => rfl) (List.Mem.tail _ (List.Mem.head _)) hn20 hc21 hz23) e40) ?_
      rintro _ _ ⟨rfl, rfl⟩
      refine TO.not rfl rfl rfl rfl ?_
      refine TO.pickF rfl rfl rfl rfl rfl ?_
      refine TO.done ?_
      refine X.seq_normal ?_
      rcases ite_some H with ⟨g41, H⟩ | ⟨g41, H⟩
      ·
        refine T.condT rfl g41 ?_
        refine T.seq ?_
        refine T.regionL (ll := [0]) rfl ?_
        refine TO.assign rfl rfl rfl rfl ?_
        refine TO.done ?_
        refine X.seq_normal ?_
        refine T.ret ?_
        refine X.then_ret ?_
        obtain rfl := ret1 H
        exact X.ret1 rfl rfl rfl rfl (Res.tmp rfl) Pick.nil ⟨rfl, rfl⟩
      ·
        refine T.condF rfl (Bool.eq_false_iff.2 g41) ?_
        refine T.skip ?_
        refine X.seq_normal ?_
        refine T.seq ?_
        refine T.regionL (ll := [0]) rfl ?_
        refine TO.assign rfl rfl rfl rfl ?_
        refine TO.done ?_
        refine X.seq_normal ?_
        refine T.seq ?_
        refine T.regionL (ll := [0, 1]) rfl ?_
        refine TO.assign rfl rfl rfl rfl ?_
        refine TO.assign rfl rfl rfl rfl ?_
        refine TO.done ?_
        refine X.seq_normal ?_
        refine T.seq ?_
        refine T.seq ?_
        refine T.regionL (ll := [0, 1, 2]) rfl ?_
        refine TO.move rfl rfl rfl rfl ?_
        refine TO.lenX (xs := r25) hn32 rfl rfl rfl rfl rfl TWLFlowSums.l25 ?_
        refine TO.move rfl rfl rfl rfl ?_
        refine TO.done ?_
        refine X.seq_normal ?_
        refine T.meetSE3 (fun (sum59 : Int) (pre60 : Bool) (right61 : Bool) => m_acequialaw03_FlowSums_j3 r3 r14 r25 sum59 pre60 right61 = some r0) (fun (sum59 : Int) (pre60 : Bool) (right61 : Bool) => [(2, .pointer (some ⟨b1, 0, none⟩)), (5, .slice (sb ob16) n17 c18), (6, .slice (sb ob28) n29 c30), (8, .int .i64 sum59), (9, .bool pre60), (10, .bool right61)]) (fun (sum59 : Int) (pre60 : Bool) (right61 : Bool) => [(some b1, .cells #[.int .i64 r3.N, .int .i64 r3.S, .int .i64 r3.T, .slice (sb ob5) n6 c7] 24 (0, 0)), (ob5, .cells (arr arcC r3.Arcs j8).toArray 28 (0, 0)), (ob16, .cells (arr (intC .i64) r14 j19).toArray 2 (0, 0)), (ob28, .cells (arr (intC .i64) r25 j31).toArray 2 (0, 0))]) ?_ ?_
        ·
          refine T.block ?_
          obtain ⟨o_1, e_1, K_1⟩ := bd_some H
          refine T.loopE5 (fun (m_1 : Nat) (sum42 : Int) (pre43 : Bool) (right44 : Bool) (x45 : Int) => loopM (fun s => m_acequialaw03_FlowSums_s1 r3 r25 s.1 s.2.1 s.2.2.1 s.2.2.2) m_1 (sum42, pre43, right44, x45) = some o_1) (fun (m_1 : Nat) (sum42 : Int) (pre43 : Bool) (right44 : Bool) (x45 : Int) => [(2, .pointer (some ⟨b1, 0, none⟩)), (5, .slice (sb ob16) n17 c18), (6, .slice (sb ob28) n29 c30), (8, .int .i64 sum42), (9, .bool pre43), (10, .bool right44), (41, .slice (sb ob28) n29 c30), (42, .int .i64 (r25.length : Int)), (43, .int .i64 x45)]) (fun (m_1 : Nat) (sum42 : Int) (pre43 : Bool) (right44 : Bool) (x45 : Int) => [(some b1, .cells #[.int .i64 r3.N, .int .i64 r3.S, .int .i64 r3.T, .slice (sb ob5) n6 c7] 24 (0, 0)), (ob5, .cells (arr arcC r3.Arcs j8).toArray 28 (0, 0)), (ob16, .cells (arr (intC .i64) r14 j19).toArray 2 (0, 0)), (ob28, .cells (arr (intC .i64) r25 j31).toArray 2 (0, 0))]) (fun (m_1 : Nat) (sum42 : Int) (pre43 : Bool) (right44 : Bool) (x45 : Int) => m_1) FUEL 0 true true 0 e_1 (AllF.cons rfl (AllF.cons rfl (AllF.cons rfl (AllF.cons rfl (AllF.cons rfl (AllF.cons rfl (AllF.cons rfl (AllF.cons rfl (AllF.cons rfl AllF.nil))))))))) (Pick.cons (Take.tail (Take.tail (Take.head _ _))) (Pick.cons (Take.tail (Take.tail (Take.head _ _))) (Pick.cons (Take.tail (Take.head _ _)) (Pick.cons (Take.head _ _) Pick.nil)))) ?_
          rintro m_1 sum42 pre43 right44 x45 H
          obtain ⟨n_1, r_1, rfl, H, C_1⟩ := loopM_some H
          have H : m_acequialaw03_FlowSums_s1 r3 r25 sum42 pre43 right44 x45 = some r_1 := H
          unfold m_acequialaw03_FlowSums_s1 at H
          refine T.seq ?_
          refine T.regionL (ll := [0]) rfl ?_
          refine TO.bin rfl rfl rfl rfl rfl rfl ?_
          refine TO.done ?_
          refine X.seq_normal ?_
          refine T.seq ?_
          rcases ite_some H with ⟨g46, H⟩ | ⟨g46, H⟩
          ·
            refine T.condPT rfl g46 ?_
            refine T.skip ?_
            refine X.seq_normal ?_
            refine T.seq ?_
            refine T.block ?_
            refine T.seq ?_
            obtain ⟨g47, H⟩ := gd_some H
            refine T.regionL (ll := [0, 1, 2, 3, 4]) rfl ?_
            refine TO.move rfl rfl rfl rfl ?_
            refine TO.ixV hz35 hc33 hn32 g47 rfl rfl rfl rfl rfl TWLFlowSums.l25 TWLFlowSums.n2 ?_
            refine TO.ldIV hz35 hc33 hn32 g47 rfl rfl rfl rfl TWLFlowSums.s2 (List.Mem.tail _ (List.Mem.tail _ (List.Mem.tail _ (List.Mem.head _)))) ?_
            refine TO.assign rfl rfl rfl rfl ?_
            refine TO.assign rfl rfl rfl rfl ?_
            refine TO.done ?_
            refine X.seq_normal ?_
            refine T.seq ?_
            obtain ⟨g48, H⟩ := gd_some H
            refine T.regionL (ll := [0, 1, 2, 3]) rfl ?_
            refine TO.move rfl rfl rfl rfl ?_
            refine TO.move rfl rfl rfl rfl ?_
            refine TO.addG g48 rfl rfl rfl rfl rfl ?_
            refine TO.assign rfl rfl rfl rfl ?_
            refine TO.done ?_
            refine X.seq_normal ?_
            refine T.seq ?_
            refine T.meetSE1 (fun (pre51 : Bool) => m_acequialaw03_FlowSums_j2 r3 r25 sum42 right44 x45 pre51 = some r_1) (fun (pre51 : Bool) => [(2, .pointer (some ⟨b1, 0, none⟩)), (5, .slice (sb ob16) n17 c18), (6, .slice (sb ob28) n29 c30), (8, .int .i64 (sum42 + (r25.getD x45.toNat 0))), (9, .bool pre51), (10, .bool right44), (11, .int .i64 x45), (12, .int .i64 (r25.getD x45.toNat 0)), (41, .slice (sb ob28) n29 c30), (42, .int .i64 (r25.length : Int)), (43, .int .i64 x45)]) (fun (pre51 : Bool) => [(some b1, .cells #[.int .i64 r3.N, .int .i64 r3.S, .int .i64 r3.T, .slice (sb ob5) n6 c7] 24 (0, 0)), (ob5, .cells (arr arcC r3.Arcs j8).toArray 28 (0, 0)), (ob16, .cells (arr (intC .i64) r14 j19).toArray 2 (0, 0)), (ob28, .cells (arr (intC .i64) r25 j31).toArray 2 (0, 0))]) ?_ ?_
            ·
              rcases ite_some H with ⟨g49, H⟩ | ⟨g49, H⟩
              ·
                rcases ite_some H with ⟨g50, H⟩ | ⟨g50, H⟩
                ·
                  refine T.regionL (ll := [0, 1, 2, 3, 4, 5, 6, 7, 8, 9, 10, 11]) rfl ?_
                  refine TO.move rfl rfl rfl rfl ?_
                  refine TO.move rfl rfl rfl rfl ?_
                  refine TO.decB (t := 52) (b' := true) rfl g49 ?_
                  refine TO.move rfl rfl rfl rfl ?_
                  refine TO.bin rfl rfl rfl rfl rfl rfl ?_
                  refine TO.move rfl rfl rfl rfl ?_
                  refine TO.decB (t := 55) (b' := true) rfl (decide_eq_true g50) ?_
                  refine TO.shut rfl rfl rfl rfl ?_
                  refine TO.shut rfl rfl rfl rfl ?_
                  refine TO.shut rfl rfl rfl rfl ?_
                  refine TO.shut rfl rfl rfl rfl ?_
                  refine TO.pickT rfl rfl rfl rfl rfl ?_
                  refine TO.pickT rfl rfl rfl rfl rfl ?_
                  refine TO.assign rfl rfl rfl rfl ?_
                  refine TO.done ?_
                  exact X.metE1 true H (AllF.cons rfl (AllF.cons rfl (AllF.cons rfl (AllF.cons rfl (AllF.cons rfl (AllF.cons rfl (AllF.cons rfl (AllF.cons rfl (AllF.cons rfl (AllF.cons rfl (AllF.cons rfl AllF.nil))))))))))) (Pick.cons (Take.head _ _) (Pick.cons (Take.head _ _) (Pick.cons (Take.head _ _) (Pick.cons (Take.head _ _) Pick.nil))))
                ·
                  refine T.regionL (ll := [0, 1, 2, 3, 4, 5, 6, 7, 8, 9, 10, 11]) rfl ?_
                  refine TO.move rfl rfl rfl rfl ?_
                  refine TO.move rfl rfl rfl rfl ?_
                  refine TO.decB (t := 52) (b' := true) rfl g49 ?_
                  refine TO.move rfl rfl rfl rfl ?_
                  refine TO.bin rfl rfl rfl rfl rfl rfl ?_
                  refine TO.move rfl rfl rfl rfl ?_
                  refine TO.decB (t := 55) (b' := false) rfl (decide_eq_false g50) ?_
                  refine TO.move rfl rfl rfl rfl ?_
                  refine TO.fieldAddr0 rfl rfl rfl rfl TWLFlowSums.f24_1 ?_
                  refine TO.load1 rfl rfl rfl rfl TWLFlowSums.s3 (List.Mem.head _) rfl ?_
                  refine TO.bin rfl rfl rfl rfl rfl rfl ?_
                  refine TO.pickF rfl rfl rfl rfl rfl ?_
                  refine TO.pickT rfl rfl rfl rfl rfl ?_
                  refine TO.assign rfl rfl rfl rfl ?_
                  refine TO.done ?_
                  exact X.metE1 (decide (x45 = r3.S)) H (AllF.cons rfl (AllF.cons rfl (AllF.cons rfl (AllF.cons rfl (AllF.cons rfl (AllF.cons rfl (AllF.cons rfl (AllF.cons rfl (AllF.cons rfl (AllF.cons rfl (AllF.cons rfl AllF.nil))))))))))) (Pick.cons (Take.head _ _) (Pick.cons (Take.head _ _) (Pick.cons (Take.head _ _) (Pick.cons (Take.head _ _) Pick.nil))))
              ·
                refine T.regionL (ll := [0, 1, 2, 3, 4, 5, 6, 7, 8, 9, 10, 11]) rfl ?_
                refine TO.move rfl rfl rfl rfl ?_
                refine TO.move rfl rfl rfl rfl ?_
                refine TO.decB (t := 52) (b' := false) rfl (Bool.eq_false_iff.2 g49) ?_
                refine TO.shut rfl rfl rfl rfl ?_
                refine TO.shut rfl rfl rfl rfl ?_
                refine TO.shut rfl rfl rfl rfl ?_
                refine TO.shutU rfl rfl rfl rfl ?_
                refine TO.shutU rfl rfl rfl rfl ?_
                refine TO.shutU rfl rfl rfl rfl ?_
                refine TO.shutU rfl rfl rfl rfl ?_
                refine TO.shut rfl rfl rfl rfl ?_
                refine TO.pickF rfl rfl rfl rfl rfl ?_
                refine TO.assign rfl rfl rfl rfl ?_
                refine TO.done ?_
                exact X.metE1 false H (AllF.cons rfl (AllF.cons rfl (AllF.cons rfl (AllF.cons rfl (AllF.cons rfl (AllF.cons rfl (AllF.cons rfl (AllF.cons rfl (AllF.cons rfl (AllF.cons rfl (AllF.cons rfl AllF.nil))))))))))) (Pick.cons (Take.head _ _) (Pick.cons (Take.head _ _) (Pick.cons (Take.head _ _) (Pick.cons (Take.head _ _) Pick.nil))))
            · rintro pre51 H
              unfold m_acequialaw03_FlowSums_j2 at H
              rcases ite_some H with ⟨g52, H⟩ | ⟨g52, H⟩
              ·
                rcases ite_some H with ⟨g53, H⟩ | ⟨g53, H⟩
                ·
                  refine T.regionL (ll := [0, 1, 2, 3, 4, 5, 6, 7, 8, 9, 10, 11, 12, 13, 14, 15, 16, 17]) rfl ?_
                  refine TO.move rfl rfl rfl rfl ?_
                  refine TO.move rfl rfl rfl rfl ?_
                  refine TO.decB (t := 63) (b' := true) rfl g52 ?_
                  refine TO.move rfl rfl rfl rfl ?_
                  refine TO.bin rfl rfl rfl rfl rfl rfl ?_
                  refine TO.move rfl rfl rfl rfl ?_
                  refine TO.decB (t := 66) (b' := true) rfl (decide_eq_true g53) ?_
                  refine TO.shut rfl rfl rfl rfl ?_
                  refine TO.shut rfl rfl rfl rfl ?_
                  refine TO.shut rfl rfl rfl rfl ?_
                  refine TO.shut rfl rfl rfl rfl ?_
                  refine TO.pickT rfl rfl rfl rfl rfl ?_
                  refine TO.move rfl rfl rfl rfl ?_
                  refine TO.shut rfl rfl rfl rfl ?_
                  refine TO.shut rfl rfl rfl rfl ?_
                  refine TO.shut rfl rfl rfl rfl ?_
                  refine TO.shut rfl rfl rfl rfl ?_
                  refine TO.pickT rfl rfl rfl rfl rfl ?_
                  refine TO.pickT rfl rfl rfl rfl rfl ?_
                  refine TO.assign rfl rfl rfl rfl ?_
                  refine TO.done ?_
                  refine X.block_normal ?_
                  refine X.seq_normal ?_
                  obtain ⟨g54, H⟩ := gd_some H
                  refine T.regionL (ll := [0, 1]) rfl ?_
                  refine TO.addG g54 rfl rfl rfl rfl rfl ?_
                  refine TO.move rfl rfl rfl rfl ?_
                  refine TO.done ?_
                  have H := loop_next H C_1
                  exact X.againE5 n_1 (sum42 + (r25.getD x45.toNat 0)) pre51 true (x45 + 1) H (Nat.lt_succ_self _) (AllF.cons rfl (AllF.cons rfl (AllF.cons rfl (AllF.cons rfl (AllF.cons rfl (AllF.cons rfl (AllF.cons rfl (AllF.cons rfl (AllF.cons rfl AllF.nil))))))))) (Pick.cons (Take.head _ _) (Pick.cons (Take.head _ _) (Pick.cons (Take.head _ _) (Pick.cons (Take.head _ _) Pick.nil))))
                ·
                  rcases ite_some H with ⟨g55, H⟩ | ⟨g55, H⟩
                  ·
                    refine T.regionL (ll := [0, 1, 2, 3, 4, 5, 6, 7, 8, 9, 10, 11, 12, 13, 14, 15, 16, 17]) rfl ?_
                    refine TO.move rfl rfl rfl rfl ?_
                    refine TO.move rfl rfl rfl rfl ?_
                    refine TO.decB (t := 63) (b' := true) rfl g52 ?_
                    refine TO.move rfl rfl rfl rfl ?_
                    refine TO.bin rfl rfl rfl rfl rfl rfl ?_
                    refine TO.move rfl rfl rfl rfl ?_
                    refine TO.decB (t := 66) (b' := false) rfl (decide_eq_false g53) ?_
                    refine TO.move rfl rfl rfl rfl ?_
                    refine TO.fieldAddr0 rfl rfl rfl rfl TWLFlowSums.f24_1 ?_
                    refine TO.load1 rfl rfl rfl rfl TWLFlowSums.s3 (List.Mem.head _) rfl ?_
                    refine TO.bin rfl rfl rfl rfl rfl rfl ?_
                    refine TO.pickF rfl rfl rfl rfl rfl ?_
                    refine TO.move rfl rfl rfl rfl ?_
                    refine TO.decB (t := 72) (b' := true) rfl (decide_eq_true g55) ?_
                    refine TO.shut rfl rfl rfl rfl ?_
                    refine TO.shut rfl rfl rfl rfl ?_
                    refine TO.shut rfl rfl rfl rfl ?_
                    refine TO.shut rfl rfl rfl rfl ?_
                    refine TO.pickT rfl rfl rfl rfl rfl ?_
                    refine TO.pickT rfl rfl rfl rfl rfl ?_
                    refine TO.assign rfl rfl rfl rfl ?_
                    refine TO.done ?_
                    refine X.block_normal ?_
                    refine X.seq_normal ?_
                    obtain ⟨g56, H⟩ := gd_some H
                    refine T.regionL (ll := [0, 1]) rfl ?_
                    refine TO.addG g56 rfl rfl rfl rfl rfl ?_
                    refine TO.move rfl rfl rfl rfl ?_
                    refine TO.done ?_
                    have H := loop_next H C_1
                    exact X.againE5 n_1 (sum42 + (r25.getD x45.toNat 0)) pre51 true (x45 + 1) H (Nat.lt_succ_self _) (AllF.cons rfl (AllF.cons rfl (AllF.cons rfl (AllF.cons rfl (AllF.cons rfl (AllF.cons rfl (AllF.cons rfl (AllF.cons rfl (AllF.cons rfl AllF.nil))))))))) (Pick.cons (Take.head _ _) (Pick.cons (Take.head _ _) (Pick.cons (Take.head _ _) (Pick.cons (Take.head _ _) Pick.nil))))
                  ·
                    refine T.regionL (ll := [0, 1, 2, 3, 4, 5, 6, 7, 8, 9, 10, 11, 12, 13, 14, 15, 16, 17]) rfl ?_
                    refine TO.move rfl rfl rfl rfl ?_
                    refine TO.move rfl rfl rfl rfl ?_
                    refine TO.decB (t := 63) (b' := true) rfl g52 ?_
                    refine TO.move rfl rfl rfl rfl ?_
                    refine TO.bin rfl rfl rfl rfl rfl rfl ?_
                    refine TO.move rfl rfl rfl rfl ?_
                    refine TO.decB (t := 66) (b' := false) rfl (decide_eq_false g53) ?_
                    refine TO.move rfl rfl rfl rfl ?_
                    refine TO.fieldAddr0 rfl rfl rfl rfl TWLFlowSums.f24_1 ?_
                    refine TO.load1 rfl rfl rfl rfl TWLFlowSums.s3 (List.Mem.head _) rfl ?_
                    refine TO.bin rfl rfl rfl rfl rfl rfl ?_
                    refine TO.pickF rfl rfl rfl rfl rfl ?_
                    refine TO.move rfl rfl rfl rfl ?_
                    refine TO.decB (t := 72) (b' := false) rfl (decide_eq_false g55) ?_
                    refine TO.move rfl rfl rfl rfl ?_
                    refine TO.fieldAddr0 rfl rfl rfl rfl TWLFlowSums.f24_2 ?_
                    refine TO.load1 rfl rfl rfl rfl TWLFlowSums.s3 (List.Mem.head _) rfl ?_
                    refine TO.bin rfl rfl rfl rfl rfl rfl ?_
                    refine TO.pickF rfl rfl rfl rfl rfl ?_
                    refine TO.pickT rfl rfl rfl rfl rfl ?_
                    refine TO.assign rfl rfl rfl rfl ?_
                    refine TO.done ?_
                    refine X.block_normal ?_
                    refine X.seq_normal ?_
                    obtain ⟨g57, H⟩ := gd_some H
                    refine T.regionL (ll := [0, 1]) rfl ?_
                    refine TO.addG g57 rfl rfl rfl rfl rfl ?_
                    refine TO.move rfl rfl rfl rfl ?_
                    refine TO.done ?_
                    have H := loop_next H C_1
                    exact X.againE5 n_1 (sum42 + (r25.getD x45.toNat 0)) pre51 (decide (x45 = r3.T)) (x45 + 1) H (Nat.lt_succ_self _) (AllF.cons rfl (AllF.cons rfl (AllF.cons rfl (AllF.cons rfl (AllF.cons rfl (AllF.cons rfl (AllF.cons rfl (AllF.cons rfl (AllF.cons rfl AllF.nil))))))))) (Pick.cons (Take.head _ _) (Pick.cons (Take.head _ _) (Pick.cons (Take.head _ _) (Pick.cons (Take.head _ _) Pick.nil))))
              ·
                refine T.regionL (ll := [0, 1, 2, 3, 4, 5, 6, 7, 8, 9, 10, 11, 12, 13, 14, 15, 16, 17]) rfl ?_
                refine TO.move rfl rfl rfl rfl ?_
                refine TO.move rfl rfl rfl rfl ?_
                refine TO.decB (t := 63) (b' := false) rfl (Bool.eq_false_iff.2 g52) ?_
                refine TO.shut rfl rfl rfl rfl ?_
                refine TO.shut rfl rfl rfl rfl ?_
                refine TO.shut rfl rfl rfl rfl ?_
                refine TO.shutU rfl rfl rfl rfl ?_
                refine TO.shutU rfl rfl rfl rfl ?_
                refine TO.shutU rfl rfl rfl rfl ?_
                refine TO.shutU rfl rfl rfl rfl ?_
                refine TO.shut rfl rfl rfl rfl ?_
                refine TO.shut rfl rfl rfl rfl ?_
                refine TO.shutU rfl rfl rfl rfl ?_
                refine TO.shutU rfl rfl rfl rfl ?_
                refine TO.shutU rfl rfl rfl rfl ?_
                refine TO.shutU rfl rfl rfl rfl ?_
                refine TO.shut rfl rfl rfl rfl ?_
                refine TO.pickF rfl rfl rfl rfl rfl ?_
                refine TO.assign rfl rfl rfl rfl ?_
                refine TO.done ?_
                refine X.block_normal ?_
                refine X.seq_normal ?_
                obtain ⟨g58, H⟩ := gd_some H
                refine T.regionL (ll := [0, 1]) rfl ?_
                refine TO.addG g58 rfl rfl rfl rfl rfl ?_
                refine TO.move rfl rfl rfl rfl ?_
                refine TO.done ?_
                have H := loop_next H C_1
                exact X.againE5 n_1 (sum42 + (r25.getD x45.toNat 0)) pre51 false (x45 + 1) H (Nat.lt_succ_self _) (AllF.cons rfl (AllF.cons rfl (AllF.cons rfl (AllF.cons rfl (AllF.cons rfl (AllF.cons rfl (AllF.cons rfl (AllF.cons rfl (AllF.cons rfl AllF.nil))))))))) (Pick.cons (Take.head _ _) (Pick.cons (Take.head _ _) (Pick.cons (Take.head _ _) (Pick.cons (Take.head _ _) Pick.nil))))
          ·
            refine T.condPF rfl g46 ?_
            refine T.exit ?_
            refine X.then_exit ?_
            have H := loop_exitE H C_1 ▸ K_1
            refine X.then_exit ?_
            refine X.block_here ?_
            exact X.metE3 sum42 pre43 right44 H (AllF.cons rfl (AllF.cons rfl (AllF.cons rfl (AllF.cons rfl (AllF.cons rfl (AllF.cons rfl AllF.nil)))))) (Pick.cons (Take.head _ _) (Pick.cons (Take.head _ _) (Pick.cons (Take.head _ _) (Pick.cons (Take.head _ _) Pick.nil))))
        · rintro sum59 pre60 right61 H
          unfold m_acequialaw03_FlowSums_j3 at H
          refine T.seq ?_
          obtain ⟨⟨r62, r63⟩, e64, H⟩ := bd_some H
          refine T.regionL (ll := [0, 1, 2, 3, 4, 5, 6, 7]) rfl ?_
          refine TO.loadA rfl rfl rfl rfl TWLFlowSums.a24 (List.Mem.head _) rfl ?_
          refine TO.move rfl rfl rfl rfl ?_
          refine TO.callX TWLFlowSums.c29 rfl rfl rfl rfl (fun wc hwc => w_flow_Value (n0 := r3) (f1 := r14) wc (hwc.rs (f := arcC) (s := 3) (xs := r3.Arcs) (j := j8) (fun _ => rfl) (List.Mem.tail _ (List.Mem.head _)) hn9 hc10 hz12) (hwc.rs (f := (intC .i64)) (s := 1) (xs := r14) (j := j19) (fun _ => rfl) (List.Mem.tail _ (List.Mem.tail _ (List.Mem.head _))) hn20 hc21 hz23) e64) ?_
          rintro _ _ ⟨rfl, rfl⟩
          refine TO.move rfl rfl rfl rfl ?_
          refine TO.extract rfl rfl rfl rfl rfl ?_
          refine TO.extract rfl rfl rfl rfl rfl ?_
          refine TO.assign rfl rfl rfl rfl ?_
          refine TO.assign rfl rfl rfl rfl ?_
          refine TO.done ?_
          refine X.seq_normal ?_
          refine T.seq ?_
          refine T.seq ?_
          rcases ite_some H with ⟨g65, H⟩ | ⟨g65, H⟩
          ·
            refine T.regionL (ll := [0, 1, 2, 3, 4, 5, 6, 7, 8, 9, 10, 11, 12, 13, 14, 15, 16, 17, 18, 19, 20, 21, 22, 23, 24, 25, 26, 27, 28, 29, 30, 31, 32, 33, 34, 35, 36, 37, 38, 39, 40, 41, 42, 43, 44, 45, 46, 47, 48, 49]) rfl ?_
            refine TO.move rfl rfl rfl rfl ?_
            refine TO.bin rfl rfl rfl rfl rfl rfl ?_
            refine TO.move rfl rfl rfl rfl ?_
            refine TO.decB (t := 88) (b' := true) rfl (decide_eq_true g65) ?_
            refine TO.shut rfl rfl rfl rfl ?_
            refine TO.shut rfl rfl rfl rfl ?_
            refine TO.shut rfl rfl rfl rfl ?_
            refine TO.shut rfl rfl rfl rfl ?_
            refine TO.shut rfl rfl rfl rfl ?_
            refine TO.pickT rfl rfl rfl rfl rfl ?_
            refine TO.move rfl rfl rfl rfl ?_
            refine TO.shut rfl rfl rfl rfl ?_
            refine TO.shut rfl rfl rfl rfl ?_
            refine TO.shut rfl rfl rfl rfl ?_
            refine TO.shut rfl rfl rfl rfl ?_
            refine TO.shut rfl rfl rfl rfl ?_
            refine TO.pickT rfl rfl rfl rfl rfl ?_
            refine TO.move rfl rfl rfl rfl ?_
            refine TO.shut rfl rfl rfl rfl ?_
            refine TO.shut rfl rfl rfl rfl ?_
            refine TO.shut rfl rfl rfl rfl ?_
            refine TO.shut rfl rfl rfl rfl ?_
            refine TO.pickT rfl rfl rfl rfl rfl ?_
            refine TO.move rfl rfl rfl rfl ?_
            refine TO.shut rfl rfl rfl rfl ?_
            refine TO.shut rfl rfl rfl rfl ?_
            refine TO.shutU rfl rfl rfl rfl ?_
            refine TO.shutU rfl rfl rfl rfl ?_
            refine TO.shutU rfl rfl rfl rfl ?_
            refine TO.shutU rfl rfl rfl rfl ?_
            refine TO.shutU rfl rfl rfl rfl ?_
            refine TO.shutU rfl rfl rfl rfl ?_
            refine TO.shutU rfl rfl rfl rfl ?_
            refine TO.shutU rfl rfl rfl rfl ?_
            refine TO.shutU rfl rfl rfl rfl ?_
            refine TO.shutU rfl rfl rfl rfl ?_
            refine TO.shutU rfl rfl rfl rfl ?_
            refine TO.shutU rfl rfl rfl rfl ?_
            refine TO.shutU rfl rfl rfl rfl ?_
            refine TO.shutU rfl rfl rfl rfl ?_
            refine TO.shutU rfl rfl rfl rfl ?_
            refine TO.shutU rfl rfl rfl rfl ?_
            refine TO.shutU rfl rfl rfl rfl ?_
            refine TO.shutU rfl rfl rfl rfl ?_
            refine TO.shutU rfl rfl rfl rfl ?_
            refine TO.shutU rfl rfl rfl rfl ?_
            refine TO.shutU rfl rfl rfl rfl ?_
            refine TO.shutU rfl rfl rfl rfl ?_
            refine TO.shutU rfl rfl rfl rfl ?_
            refine TO.shut rfl rfl rfl rfl ?_
            refine TO.pickT rfl rfl rfl rfl rfl ?_
            refine TO.done ?_
            refine X.seq_normal ?_
            refine T.condT rfl rfl ?_
            refine T.seq ?_
            refine T.regionL (ll := [0]) rfl ?_
            refine TO.assign rfl rfl rfl rfl ?_
            refine TO.done ?_
            refine X.seq_normal ?_
            refine T.ret ?_
            refine X.then_ret ?_
            obtain rfl := ret1 H
            exact X.ret1 rfl rfl rfl rfl (Res.tmp rfl) Pick.nil ⟨rfl, rfl⟩
          ·
            obtain ⟨r66, e67, H⟩ := bd_some H
            rcases ite_some H with ⟨g68, H⟩ | ⟨g68, H⟩
            ·
              refine T.regionL (ll := [0, 1, 2, 3, 4, 5, 6, 7, 8, 9, 10, 11, 12, 13, 14, 15, 16, 17, 18, 19, 20, 21, 22, 23, 24, 25, 26, 27, 28, 29, 30, 31, 32, 33, 34, 35, 36, 37, 38, 39, 40, 41, 42, 43, 44, 45, 46, 47, 48, 49]) rfl ?_
              refine TO.move rfl rfl rfl rfl ?_
              refine TO.bin rfl rfl rfl rfl rfl rfl ?_
              refine TO.move rfl rfl rfl rfl ?_
              refine TO.decB (t := 88) (b' := false) rfl (decide_eq_false g65) ?_
              refine TO.loadA rfl rfl rfl rfl TWLFlowSums.a24 (List.Mem.head _) rfl ?_
              refine TO.move rfl rfl rfl rfl ?_
              refine TO.callX TWLFlowSums.c30 rfl rfl rfl rfl (fun wc hwc => w_flow_Pre (n0 := r3) (f1 := r14) wc (hwc.rs (f := arcC) (s := 3) (xs := r3.Arcs) (j := j8) (fun _ => rfl) (List.Mem.tail _ (List.Mem.head _)) hn9 hc10 hz12) (hwc.rs (f := (intC .i64)) (s := 1) (xs := r14) (j := j19) (fun _ => rfl) (List.Mem.tail _ (List.Mem.tail _ (List.Mem.head _))) hn20 hc21 hz23) e67) ?_
              rintro _ _ ⟨rfl, rfl⟩
              refine TO.move rfl rfl rfl rfl ?_
              refine TO.neb rfl rfl rfl rfl rfl TWLFlowSums.u4 ?_
              refine TO.pickF rfl rfl rfl rfl rfl ?_
              refine TO.move rfl rfl rfl rfl ?_
              refine TO.decB (t := 95) (b' := true) rfl g68 ?_
              refine TO.shut rfl rfl rfl rfl ?_
              refine TO.shut rfl rfl rfl rfl ?_
              refine TO.shut rfl rfl rfl rfl ?_
              refine TO.shut rfl rfl rfl rfl ?_
              refine TO.shut rfl rfl rfl rfl ?_
              refine TO.pickT rfl rfl rfl rfl rfl ?_
              refine TO.move rfl rfl rfl rfl ?_
              refine TO.shut rfl rfl rfl rfl ?_
              refine TO.shut rfl rfl rfl rfl ?_
              refine TO.shut rfl rfl rfl rfl ?_
              refine TO.shut rfl rfl rfl rfl ?_
              refine TO.pickT rfl rfl rfl rfl rfl ?_
              refine TO.move rfl rfl rfl rfl ?_
              refine TO.shut rfl rfl rfl rfl ?_
              refine TO.shut rfl rfl rfl rfl ?_
              refine TO.shutU rfl rfl rfl rfl ?_
              refine TO.shutU rfl rfl rfl rfl ?_
              refine TO.shutU rfl rfl rfl rfl ?_
              refine TO.shutU rfl rfl rfl rfl ?_
              refine TO.shutU rfl rfl rfl rfl ?_
              refine TO.shutU rfl rfl rfl rfl ?_
              refine TO.shutU rfl rfl rfl rfl ?_
              refine TO.shutU rfl rfl rfl rfl ?_
              refine TO.shutU rfl rfl rfl rfl ?_
              refine TO.shutU rfl rfl rfl rfl ?_
              refine TO.shutU rfl rfl rfl rfl ?_
              refine TO.shutU rfl rfl rfl rfl ?_
              refine TO.shutU rfl rfl rfl rfl ?_
              refine TO.shutU rfl rfl rfl rfl ?_
              refine TO.shutU rfl rfl rfl rfl ?_
              refine TO.shutU rfl rfl rfl rfl ?_
              refine TO.shutU rfl rfl rfl rfl ?_
              refine TO.shutU rfl rfl rfl rfl ?_
              refine TO.shutU rfl rfl rfl rfl ?_
              refine TO.shutU rfl rfl rfl rfl ?_
              refine TO.shutU rfl rfl rfl rfl ?_
              refine TO.shutU rfl rfl rfl rfl ?_
              refine TO.shutU rfl rfl rfl rfl ?_
              refine TO.shut rfl rfl rfl rfl ?_
              refine TO.pickT rfl rfl rfl rfl rfl ?_
              refine TO.done ?_
              refine X.seq_normal ?_
              refine T.condT rfl rfl ?_
              refine T.seq ?_
              refine T.regionL (ll := [0]) rfl ?_
              refine TO.assign rfl rfl rfl rfl ?_
              refine TO.done ?_
              refine X.seq_normal ?_
              refine T.ret ?_
              refine X.then_ret ?_
              obtain rfl := ret1 H
              exact X.ret1 rfl rfl rfl rfl (Res.tmp rfl) Pick.nil ⟨rfl, rfl⟩
            ·
              obtain ⟨r69, e70, H⟩ := bd_some H
              rcases ite_some H with ⟨g71, H⟩ | ⟨g71, H⟩
              ·
                refine T.regionL (ll := [0, 1, 2, 3, 4, 5, 6, 7, 8, 9, 10, 11, 12, 13, 14, 15, 16, 17, 18, 19, 20, 21, 22, 23, 24, 25, 26, 27, 28, 29, 30, 31, 32, 33, 34, 35, 36, 37, 38, 39, 40, 41, 42, 43, 44, 45, 46, 47, 48, 49]) rfl ?_
                refine TO.move rfl rfl rfl rfl ?_
                refine TO.bin rfl rfl rfl rfl rfl rfl ?_
                refine TO.move rfl rfl rfl rfl ?_
                refine TO.decB (t := 88) (b' := false) rfl (decide_eq_false g65) ?_
                refine TO.loadA rfl rfl rfl rfl TWLFlowSums.a24 (List.Mem.head _) rfl ?_
                refine TO.move rfl rfl rfl rfl ?_
                refine TO.callX TWLFlowSums.c30 rfl rfl rfl rfl (fun wc hwc => w_flow_Pre (n0 := r3) (f1 := r14) wc (hwc.rs (f := arcC) (s := 3) (xs := r3.Arcs) (j := j8) (fun _ => rfl) (List.Mem.tail _ (List.Mem.head _)) hn9 hc10 hz12) (hwc.rs (f := (intC .i64)) (s := 1) (xs := r14) (j := j19) (fun _ => rfl) (List.Mem.tail _ (List.Mem.tail _ (List.Mem.head _))) hn20 hc21 hz23) e67) ?_
                rintro _ _ ⟨rfl, rfl⟩
                refine TO.move rfl rfl rfl rfl ?_
                refine TO.neb rfl rfl rfl rfl rfl TWLFlowSums.u4 ?_
                refine TO.pickF rfl rfl rfl rfl rfl ?_
                refine TO.move rfl rfl rfl rfl ?_
                refine TO.decB (t := 95) (b' := false) rfl (Bool.eq_false_iff.2 g68) ?_
                refine TO.loadA rfl rfl rfl rfl TWLFlowSums.a24 (List.Mem.head _) rfl ?_
                refine TO.move rfl rfl rfl rfl ?_
                refine TO.callX TWLFlowSums.c31 rfl rfl rfl rfl (fun wc hwc => w_flow_Right (n0 := r3) (f1 := r14) wc (hwc.rs (f := arcC) (s := 3) (xs := r3.Arcs) (j := j8) (fun _ => rfl) (List.Mem.tail _ (List.Mem.head _)) hn9 hc10 hz12) (hwc.rs (f := (intC .i64)) (s := 1) (xs := r14) (j := j19) (fun _ => rfl) (List.Mem.tail _ (List.Mem.tail _ (List.Mem.head _))) hn20 hc21 hz23) e70) ?_
                rintro _ _ ⟨rfl, rfl⟩
                refine TO.move rfl rfl rfl rfl ?_
                refine TO.neb rfl rfl rfl rfl rfl TWLFlowSums.u4 ?_
                refine TO.pickF rfl rfl rfl rfl rfl ?_
                refine TO.move rfl rfl rfl rfl ?_
                refine TO.decB (t := 102) (b' := true) rfl g71 ?_
                refine TO.shut rfl rfl rfl rfl ?_
                refine TO.shut rfl rfl rfl rfl ?_
                refine TO.shut rfl rfl rfl rfl ?_
                refine TO.shut rfl rfl rfl rfl ?_
                refine TO.pickT rfl rfl rfl rfl rfl ?_
                refine TO.move rfl rfl rfl rfl ?_
                refine TO.shut rfl rfl rfl rfl ?_
                refine TO.shut rfl rfl rfl rfl ?_
                refine TO.shutU rfl rfl rfl rfl ?_
                refine TO.shutU rfl rfl rfl rfl ?_
                refine TO.shutU rfl rfl rfl rfl ?_
                refine TO.shutU rfl rfl rfl rfl ?_
                refine TO.shutU rfl rfl rfl rfl ?_
                refine TO.shutU rfl rfl rfl rfl ?_
                refine TO.shutU rfl rfl rfl rfl ?_
                refine TO.shutU rfl rfl rfl rfl ?_
                refine TO.shutU rfl rfl rfl rfl ?_
                refine TO.shutU rfl rfl rfl rfl ?_
                refine TO.shutU rfl rfl rfl rfl ?_
                refine TO.shutU rfl rfl rfl rfl ?_
                refine TO.shutU rfl rfl rfl rfl ?_
                refine TO.shutU rfl rfl rfl rfl ?_
                refine TO.shutU rfl rfl rfl rfl ?_
                refine TO.shutU rfl rfl rfl rfl ?_
                refine TO.shutU rfl rfl rfl rfl ?_
                refine TO.shutU rfl rfl rfl rfl ?_
                refine TO.shutU rfl rfl rfl rfl ?_
                refine TO.shutU rfl rfl rfl rfl ?_
                refine TO.shutU rfl rfl rfl rfl ?_
                refine TO.shutU rfl rfl rfl rfl ?_
                refine TO.shutU rfl rfl rfl rfl ?_
                refine TO.shut rfl rfl rfl rfl ?_
                refine TO.pickT rfl rfl rfl rfl rfl ?_
                refine TO.done ?_
                refine X.seq_normal ?_
                refine T.condT rfl rfl ?_
                refine T.seq ?_
                refine T.regionL (ll := [0]) rfl ?_
                refine TO.assign rfl rfl rfl rfl ?_
                refine TO.done ?_
                refine X.seq_normal ?_
                refine T.ret ?_
                refine X.then_ret ?_
                obtain rfl := ret1 H
                exact X.ret1 rfl rfl rfl rfl (Res.tmp rfl) Pick.nil ⟨rfl, rfl⟩
              ·
                rcases ite_some H with ⟨g72, H⟩ | ⟨g72, H⟩
                ·
                  refine T.regionL (ll := [0, 1, 2, 3, 4, 5, 6, 7, 8, 9, 10, 11, 12, 13, 14, 15, 16, 17, 18, 19, 20, 21, 22, 23, 24, 25, 26, 27, 28, 29, 30, 31, 32, 33, 34, 35, 36, 37, 38, 39, 40, 41, 42, 43, 44, 45, 46, 47, 48, 49]) rfl ?_
                  refine TO.move rfl rfl rfl rfl ?_
                  refine TO.bin rfl rfl rfl rfl rfl rfl ?_
                  refine TO.move rfl rfl rfl rfl ?_
                  refine TO.decB (t := 88) (b' := false) rfl (decide_eq_false g65) ?_
                  refine TO.loadA rfl rfl rfl rfl TWLFlowSums.a24 (List.Mem.head _) rfl ?_
                  refine TO.move rfl rfl rfl rfl ?_
                  refine TO.callX TWLFlowSums.c30 rfl rfl rfl rfl (fun wc hwc => w_flow_Pre (n0 := r3) (f1 := r14) wc (hwc.rs (f := arcC) (s := 3) (xs := r3.Arcs) (j := j8) (fun _ => rfl) (List.Mem.tail _ (List.Mem.head _)) hn9 hc10 hz12) (hwc.rs (f := (intC .i64)) (s := 1) (xs := r14) (j := j19) (fun _ => rfl) (List.Mem.tail _ (List.Mem.tail _ (List.Mem.head _))) hn20 hc21 hz23) e67) ?_
                  rintro _ _ ⟨rfl, rfl⟩
                  refine TO.move rfl rfl rfl rfl ?_
                  refine TO.neb rfl rfl rfl rfl rfl TWLFlowSums.u4 ?_
                  refine TO.pickF rfl rfl rfl rfl rfl ?_
                  refine TO.move rfl rfl rfl rfl ?_
                  refine TO.decB (t := 95) (b' := false) rfl (Bool.eq_false_iff.2 g68) ?_
                  refine TO.loadA rfl rfl rfl rfl TWLFlowSums.a24 (List.Mem.head _) rfl ?_
                  refine TO.move rfl rfl rfl rfl ?_
                  refine TO.callX TWLFlowSums.c31 rfl rfl rfl rfl (fun wc hwc => w_flow_Right (n0 := r3) (f1 := r14) wc (hwc.rs (f := arcC) (s := 3) (xs := r3.Arcs) (j := j8) (fun _ => rfl) (List.Mem.tail _ (List.Mem.head _)) hn9 hc10 hz12) (hwc.rs (f := (intC .i64)) (s := 1) (xs := r14) (j := j19) (fun _ => rfl) (List.Mem.tail _ (List.Mem.tail _ (List.Mem.head _))) hn20 hc21 hz23) e70) ?_
                  rintro _ _ ⟨rfl, rfl⟩
                  refine TO.move rfl rfl rfl rfl ?_
                  refine TO.neb rfl rfl rfl rfl rfl TWLFlowSums.u4 ?_
                  refine TO.pickF rfl rfl rfl rfl rfl ?_
                  refine TO.move rfl rfl rfl rfl ?_
                  refine TO.decB (t := 102) (b' := false) rfl (Bool.eq_false_iff.2 g71) ?_
                  refine TO.move rfl rfl rfl rfl ?_
                  refine TO.bin rfl rfl rfl rfl rfl rfl ?_
                  refine TO.move rfl rfl rfl rfl ?_
                  refine TO.neb rfl rfl rfl rfl rfl TWLFlowSums.u4 ?_
                  refine TO.pickF rfl rfl rfl rfl rfl ?_
                  refine TO.move rfl rfl rfl rfl ?_
                  refine TO.decB (t := 108) (b' := true) rfl g72 ?_
                  refine TO.shut rfl rfl rfl rfl ?_
                  refine TO.shut rfl rfl rfl rfl ?_
                  refine TO.shutU rfl rfl rfl rfl ?_
                  refine TO.shutU rfl rfl rfl rfl ?_
                  refine TO.shutU rfl rfl rfl rfl ?_
                  refine TO.shutU rfl rfl rfl rfl ?_
                  refine TO.shutU rfl rfl rfl rfl ?_
                  refine TO.shutU rfl rfl rfl rfl ?_
                  refine TO.shutU rfl rfl rfl rfl ?_
                  refine TO.shutU rfl rfl rfl rfl ?_
                  refine TO.shutU rfl rfl rfl rfl ?_
                  refine TO.shutU rfl rfl rfl rfl ?_
                  refine TO.shutU rfl rfl rfl rfl ?_
                  refine TO.shutU rfl rfl rfl rfl ?_
                  refine TO.shutU rfl rfl rfl rfl ?_
                  refine TO.shutU rfl rfl rfl rfl ?_
                  refine TO.shutU rfl rfl rfl rfl ?_
                  refine TO.shutU rfl rfl rfl rfl ?_
                  refine TO.shutU rfl rfl rfl rfl ?_
                  refine TO.shutU rfl rfl rfl rfl ?_
                  refine TO.shutU rfl rfl rfl rfl ?_
                  refine TO.shutU rfl rfl rfl rfl ?_
                  refine TO.shutU rfl rfl rfl rfl ?_
                  refine TO.shutU rfl rfl rfl rfl ?_
                  refine TO.shutU rfl rfl rfl rfl ?_
                  refine TO.shut rfl rfl rfl rfl ?_
                  refine TO.pickT rfl rfl rfl rfl rfl ?_
                  refine TO.done ?_
                  refine X.seq_normal ?_
                  refine T.condT rfl rfl ?_
                  refine T.seq ?_
                  refine T.regionL (ll := [0]) rfl ?_
                  refine TO.assign rfl rfl rfl rfl ?_
                  refine TO.done ?_
                  refine X.seq_normal ?_
                  refine T.ret ?_
                  refine X.then_ret ?_
                  obtain rfl := ret1 H
                  exact X.ret1 rfl rfl rfl rfl (Res.tmp rfl) Pick.nil ⟨rfl, rfl⟩
                ·
                  rcases ite_some H with ⟨g73, H⟩ | ⟨g73, H⟩
                  ·
                    obtain ⟨g74, H⟩ := gd_some H
                    rcases ite_some H with ⟨g75, H⟩ | ⟨g75, H⟩
                    ·
                      refine T.regionL (ll := [0, 1, 2, 3, 4, 5, 6, 7, 8, 9, 10, 11, 12, 13, 14, 15, 16, 17, 18, 19, 20, 21, 22, 23, 24, 25, 26, 27, 28, 29, 30, 31, 32, 33, 34, 35, 36, 37, 38, 39, 40, 41, 42, 43, 44, 45, 46, 47, 48, 49]) rfl ?_
                      refine TO.move rfl rfl rfl rfl ?_
                      refine TO.bin rfl rfl rfl rfl rfl rfl ?_
                      refine TO.move rfl rfl rfl rfl ?_
                      refine TO.decB (t := 88) (b' := false) rfl (decide_eq_false g65) ?_
                      refine TO.loadA rfl rfl rfl rfl TWLFlowSums.a24 (List.Mem.head _) rfl ?_
                      refine TO.move rfl rfl rfl rfl ?_
                      refine TO.callX TWLFlowSums.c30 rfl rfl rfl rfl (fun wc hwc => w_flow_Pre (n0 := r3) (f1 := r14) wc (hwc.rs (f := arcC) (s := 3) (xs := r3.Arcs) (j := j8) (fun _ => rfl) (List.Mem.tail _ (List.Mem.head _)) hn9 hc10 hz12) (hwc.rs (f := (intC .i64)) (s := 1) (xs := r14) (j := j19) (fun _ => rfl) (List.Mem.tail _ (List.Mem.tail _ (List.Mem.head _))) hn20 hc21 hz23) e67) ?_
                      rintro _ _ ⟨rfl, rfl⟩
                      refine TO.move rfl rfl rfl rfl ?_
                      refine TO.neb rfl rfl rfl rfl rfl TWLFlowSums.u4 ?_
                      refine TO.pickF rfl rfl rfl rfl rfl ?_
                      refine TO.move rfl rfl rfl rfl ?_
                      refine TO.decB (t := 95) (b' := false) rfl (Bool.eq_false_iff.2 g68) ?_
                      refine TO.loadA rfl rfl rfl rfl TWLFlowSums.a24 (List.Mem.head _) rfl ?_
                      refine TO.move rfl rfl rfl rfl ?_
                      refine TO.callX TWLFlowSums.c31 rfl rfl rfl rfl (fun wc hwc => w_flow_Right (n0 := r3) (f1 := r14) wc (hwc.rs (f := arcC) (s := 3) (xs := r3.Arcs) (j := j8) (fun _ => rfl) (List.Mem.tail _ (List.Mem.head _)) hn9 hc10 hz12) (hwc.rs (f := (intC .i64)) (s := 1) (xs := r14) (j := j19) (fun _ => rfl) (List.Mem.tail _ (List.Mem.tail _ (List.Mem.head _))) hn20 hc21 hz23) e70) ?_
                      rintro _ _ ⟨rfl, rfl⟩
                      refine TO.move rfl rfl rfl rfl ?_
                      refine TO.neb rfl rfl rfl rfl rfl TWLFlowSums.u4 ?_
                      refine TO.pickF rfl rfl rfl rfl rfl ?_
                      refine TO.move rfl rfl rfl rfl ?_
                      refine TO.decB (t := 102) (b' := false) rfl (Bool.eq_false_iff.2 g71) ?_
                      refine TO.move rfl rfl rfl rfl ?_
                      refine TO.bin rfl rfl rfl rfl rfl rfl ?_
                      refine TO.move rfl rfl rfl rfl ?_
                      refine TO.neb rfl rfl rfl rfl rfl TWLFlowSums.u4 ?_
                      refine TO.pickF rfl rfl rfl rfl rfl ?_
                      refine TO.move rfl rfl rfl rfl ?_
                      refine TO.decB (t := 108) (b' := false) rfl (Bool.eq_false_iff.2 g72) ?_
                      refine TO.move rfl rfl rfl rfl ?_
                      refine TO.move rfl rfl rfl rfl ?_
                      refine TO.decB (t := 110) (b' := true) rfl g73 ?_
                      refine TO.move rfl rfl rfl rfl ?_
                      refine TO.move rfl rfl rfl rfl ?_
                      refine TO.fieldAddr0 rfl rfl rfl rfl TWLFlowSums.f24_2 ?_
                      refine TO.load1 rfl rfl rfl rfl TWLFlowSums.s3 (List.Mem.head _) rfl ?_
                      refine TO.ixV hz35 hc33 hn32 g74 rfl rfl rfl rfl rfl TWLFlowSums.l25 TWLFlowSums.n2 ?_
                      refine TO.ldIV hz35 hc33 hn32 g74 rfl rfl rfl rfl TWLFlowSums.s2 (List.Mem.tail _ (List.Mem.tail _ (List.Mem.tail _ (List.Mem.head _)))) ?_
                      refine TO.bin rfl rfl rfl rfl rfl rfl ?_
                      refine TO.move rfl rfl rfl rfl ?_
                      refine TO.decB (t := 118) (b' := true) rfl (decide_eq_true g75) ?_
                      refine TO.shut rfl rfl rfl rfl ?_
                      refine TO.shut rfl rfl rfl rfl ?_
                      refine TO.shut rfl rfl rfl rfl ?_
                      refine TO.shut rfl rfl rfl rfl ?_
                      refine TO.shut rfl rfl rfl rfl ?_
                      refine TO.shut rfl rfl rfl rfl ?_
                      refine TO.shut rfl rfl rfl rfl ?_
                      refine TO.shut rfl rfl rfl rfl ?_
                      refine TO.pickT rfl rfl rfl rfl rfl ?_
                      refine TO.move rfl rfl rfl rfl ?_
                      refine TO.shut rfl rfl rfl rfl ?_
                      refine TO.shut rfl rfl rfl rfl ?_
                      refine TO.shut rfl rfl rfl rfl ?_
                      refine TO.shut rfl rfl rfl rfl ?_
                      refine TO.pickT rfl rfl rfl rfl rfl ?_
                      refine TO.pickT rfl rfl rfl rfl rfl ?_
                      refine TO.pickF rfl rfl rfl rfl rfl ?_
                      refine TO.done ?_
                      refine X.seq_normal ?_
                      refine T.condT rfl rfl ?_
                      refine T.seq ?_
                      refine T.regionL (ll := [0]) rfl ?_
                      refine TO.assign rfl rfl rfl rfl ?_
                      refine TO.done ?_
                      refine X.seq_normal ?_
                      refine T.ret ?_
                      refine X.then_ret ?_
                      obtain rfl := ret1 H
                      exact X.ret1 rfl rfl rfl rfl (Res.tmp rfl) Pick.nil ⟨rfl, rfl⟩
                    ·
                      obtain ⟨g76, H⟩ := gd_some H
                      obtain ⟨g77, H⟩ := gd_some H
                      rcases ite_some H with ⟨g78, H⟩ | ⟨g78, H⟩
                      ·
                        refine T.regionL (ll := [0, 1, 2, 3, 4, 5, 6, 7, 8, 9, 10, 11, 12, 13, 14, 15, 16, 17, 18, 19, 20, 21, 22, 23, 24, 25, 26, 27, 28, 29, 30, 31, 32, 33, 34, 35, 36, 37, 38, 39, 40, 41, 42, 43, 44, 45, 46, 47, 48, 49]) rfl ?_
                        refine TO.move rfl rfl rfl rfl ?_
                        refine TO.bin rfl rfl rfl rfl rfl rfl ?_
                        refine TO.move rfl rfl rfl rfl ?_
                        refine TO.decB (t := 88) (b' := false) rfl (decide_eq_false g65) ?_
                        refine TO.loadA rfl rfl rfl rfl TWLFlowSums.a24 (List.Mem.head _) rfl ?_
                        refine TO.move rfl rfl rfl rfl ?_
                        refine TO.callX TWLFlowSums.c30 rfl rfl rfl rfl (fun wc hwc => w_flow_Pre (n0 := r3) (f1 := r14) wc (hwc.rs (f := arcC) (s := 3) (xs := r3.Arcs) (j := j8) (fun _ => rfl) (List.Mem.tail _ (List.Mem.head _)) hn9 hc10 hz12) (hwc.rs (f := (intC .i64)) (s := 1) (xs := r14) (j := j19) (fun _ => rfl) (List.Mem.tail _ (List.Mem.tail _ (List.Mem.head _))) hn20 hc21 hz23) e67) ?_
                        rintro _ _ ⟨rfl, rfl⟩
                        refine TO.move rfl rfl rfl rfl ?_
                        refine TO.neb rfl rfl rfl rfl rfl TWLFlowSums.u4 ?_
                        refine TO.pickF rfl rfl rfl rfl rfl ?_
                        refine TO.move rfl rfl rfl rfl ?_
                        refine TO.decB (t := 95) (b' := false) rfl (Bool.eq_false_iff.2 g68) ?_
                        refine TO.loadA rfl rfl rfl rfl TWLFlowSums.a24 (List.Mem.head _) rfl ?_
                        refine TO.move rfl rfl rfl rfl ?_
                        refine TO.callX TWLFlowSums.c31 rfl rfl rfl rfl (fun wc hwc => w_flow_Right (n0 := r3) (f1 := r14) wc (hwc.rs (f := arcC) (s := 3) (xs := r3.Arcs) (j := j8) (fun _ => rfl) (List.Mem.tail _ (List.Mem.head _)) hn9 hc10 hz12) (hwc.rs (f := (intC .i64)) (s := 1) (xs := r14) (j := j19) (fun _ => rfl) (List.Mem.tail _ (List.Mem.tail _ (List.Mem.head _))) hn20 hc21 hz23) e70) ?_
                        rintro _ _ ⟨rfl, rfl⟩
                        refine TO.move rfl rfl rfl rfl ?_
                        refine TO.neb rfl rfl rfl rfl rfl TWLFlowSums.u4 ?_
                        refine TO.pickF rfl rfl rfl rfl rfl ?_
                        refine TO.move rfl rfl rfl rfl ?_
                        refine TO.decB (t := 102) (b' := false) rfl (Bool.eq_false_iff.2 g71) ?_
                        refine TO.move rfl rfl rfl rfl ?_
                        refine TO.bin rfl rfl rfl rfl rfl rfl ?_
                        refine TO.move rfl rfl rfl rfl ?_
                        refine TO.neb rfl rfl rfl rfl rfl TWLFlowSums.u4 ?_
                        refine TO.pickF rfl rfl rfl rfl rfl ?_
                        refine TO.move rfl rfl rfl rfl ?_
                        refine TO.decB (t := 108) (b' := false) rfl (Bool.eq_false_iff.2 g72) ?_
                        refine TO.move rfl rfl rfl rfl ?_
                        refine TO.move rfl rfl rfl rfl ?_
                        refine TO.decB (t := 110) (b' := true) rfl g73 ?_
                        refine TO.move rfl rfl rfl rfl ?_
                        refine TO.move rfl rfl rfl rfl ?_
                        refine TO.fieldAddr0 rfl rfl rfl rfl TWLFlowSums.f24_2 ?_
                        refine TO.load1 rfl rfl rfl rfl TWLFlowSums.s3 (List.Mem.head _) rfl ?_
                        refine TO.ixV hz35 hc33 hn32 g74 rfl rfl rfl rfl rfl TWLFlowSums.l25 TWLFlowSums.n2 ?_
                        refine TO.ldIV hz35 hc33 hn32 g74 rfl rfl rfl rfl TWLFlowSums.s2 (List.Mem.tail _ (List.Mem.tail _ (List.Mem.tail _ (List.Mem.head _)))) ?_
                        refine TO.bin rfl rfl rfl rfl rfl rfl ?_
                        refine TO.move rfl rfl rfl rfl ?_
                        refine TO.decB (t := 118) (b' := false) rfl (decide_eq_false g75) ?_
                        refine TO.move rfl rfl rfl rfl ?_
                        refine TO.move rfl rfl rfl rfl ?_
                        refine TO.fieldAddr0 rfl rfl rfl rfl TWLFlowSums.f24_1 ?_
                        refine TO.load1 rfl rfl rfl rfl TWLFlowSums.s3 (List.Mem.head _) rfl ?_
                        refine TO.ixV hz35 hc33 hn32 g76 rfl rfl rfl rfl rfl TWLFlowSums.l25 TWLFlowSums.n2 ?_
                        refine TO.ldIV hz35 hc33 hn32 g76 rfl rfl rfl rfl TWLFlowSums.s2 (List.Mem.tail _ (List.Mem.tail _ (List.Mem.tail _ (List.Mem.head _)))) ?_
                        refine TO.negG g77 rfl rfl rfl rfl ?_
                        refine TO.bin rfl rfl rfl rfl rfl rfl ?_
                        refine TO.pickF rfl rfl rfl rfl rfl ?_
                        refine TO.move rfl rfl rfl rfl ?_
                        refine TO.decB (t := 128) (b' := true) rfl (decide_eq_true g78) ?_
                        refine TO.shut rfl rfl rfl rfl ?_
                        refine TO.shut rfl rfl rfl rfl ?_
                        refine TO.shut rfl rfl rfl rfl ?_
                        refine TO.shut rfl rfl rfl rfl ?_
                        refine TO.pickT rfl rfl rfl rfl rfl ?_
                        refine TO.pickT rfl rfl rfl rfl rfl ?_
                        refine TO.pickF rfl rfl rfl rfl rfl ?_
                        refine TO.done ?_
                        refine X.seq_normal ?_
                        refine T.condT rfl rfl ?_
                        refine T.seq ?_
                        refine T.regionL (ll := [0]) rfl ?_
                        refine TO.assign rfl rfl rfl rfl ?_
                        refine TO.done ?_
                        refine X.seq_normal ?_
                        refine T.ret ?_
                        refine X.then_ret ?_
                        obtain rfl := ret1 H
                        exact X.ret1 rfl rfl rfl rfl (Res.tmp rfl) Pick.nil ⟨rfl, rfl⟩
                      ·
                        refine T.regionL (ll := [0, 1, 2, 3, 4, 5, 6, 7, 8, 9, 10, 11, 12, 13, 14, 15, 16, 17, 18, 19, 20, 21, 22, 23, 24, 25, 26, 27, 28, 29, 30, 31, 32, 33, 34, 35, 36, 37, 38, 39, 40, 41, 42, 43, 44, 45, 46, 47, 48, 49]) rfl ?_
                        refine TO.move rfl rfl rfl rfl ?_
                        refine TO.bin rfl rfl rfl rfl rfl rfl ?_
                        refine TO.move rfl rfl rfl rfl ?_
                        refine TO.decB (t := 88) (b' := false) rfl (decide_eq_false g65) ?_
                        refine TO.loadA rfl rfl rfl rfl TWLFlowSums.a24 (List.Mem.head _) rfl ?_
                        refine TO.move rfl rfl rfl rfl ?_
                        refine TO.callX TWLFlowSums.c30 rfl rfl rfl rfl (fun wc hwc => w_flow_Pre (n0 := r3) (f1 := r14) wc (hwc.rs (f := arcC) (s := 3) (xs := r3.Arcs) (j := j8) (fun _ => rfl) (List.Mem.tail _ (List.Mem.head _)) hn9 hc10 hz12) (hwc.rs (f := (intC .i64)) (s := 1) (xs := r14) (j := j19) (fun _ => rfl) (List.Mem.tail _ (List.Mem.tail _ (List.Mem.head _))) hn20 hc21 hz23) e67) ?_
                        rintro _ _ ⟨rfl, rfl⟩
                        refine TO.move rfl rfl rfl rfl ?_
                        refine TO.neb rfl rfl rfl rfl rfl TWLFlowSums.u4 ?_
                        refine TO.pickF rfl rfl rfl rfl rfl ?_
                        refine TO.move rfl rfl rfl rfl ?_
                        refine TO.decB (t := 95) (b' := false) rfl (Bool.eq_false_iff.2 g68) ?_
                        refine TO.loadA rfl rfl rfl rfl TWLFlowSums.a24 (List.Mem.head _) rfl ?_
                        refine TO.move rfl rfl rfl rfl ?_
                        refine TO.callX TWLFlowSums.c31 rfl rfl rfl rfl (fun wc hwc => w_flow_Right (n0 := r3) (f1 := r14) wc (hwc.rs (f := arcC) (s := 3) (xs := r3.Arcs) (j := j8) (fun _ => rfl) (List.Mem.tail _ (List.Mem.head _)) hn9 hc10 hz12) (hwc.rs (f := (intC .i64)) (s := 1) (xs := r14) (j := j19) (fun _ => rfl) (List.Mem.tail _ (List.Mem.tail _ (List.Mem.head _))) hn20 hc21 hz23) e70) ?_
                        rintro _ _ ⟨rfl, rfl⟩
                        refine TO.move rfl rfl rfl rfl ?_
                        refine TO.neb rfl rfl rfl rfl rfl TWLFlowSums.u4 ?_
                        refine TO.pickF rfl rfl rfl rfl rfl ?_
                        refine TO.move rfl rfl rfl rfl ?_
                        refine TO.decB (t := 102) (b' := false) rfl (Bool.eq_false_iff.2 g71) ?_
                        refine TO.move rfl rfl rfl rfl ?_
                        refine TO.bin rfl rfl rfl rfl rfl rfl ?_
                        refine TO.move rfl rfl rfl rfl ?_
                        refine TO.neb rfl rfl rfl rfl rfl TWLFlowSums.u4 ?_
                        refine TO.pickF rfl rfl rfl rfl rfl ?_
                        refine TO.move rfl rfl rfl rfl ?_
                        refine TO.decB (t := 108) (b' := false) rfl (Bool.eq_false_iff.2 g72) ?_
                        refine TO.move rfl rfl rfl rfl ?_
                        refine TO.move rfl rfl rfl rfl ?_
                        refine TO.decB (t := 110) (b' := true) rfl g73 ?_
                        refine TO.move rfl rfl rfl rfl ?_
                        refine TO.move rfl rfl rfl rfl ?_
                        refine TO.fieldAddr0 rfl rfl rfl rfl TWLFlowSums.f24_2 ?_
                        refine TO.load1 rfl rfl rfl rfl TWLFlowSums.s3 (List.Mem.head _) rfl ?_
                        refine TO.ixV hz35 hc33 hn32 g74 rfl rfl rfl rfl rfl TWLFlowSums.l25 TWLFlowSums.n2 ?_
                        refine TO.ldIV hz35 hc33 hn32 g74 rfl rfl rfl rfl TWLFlowSums.s2 (List.Mem.tail _ (List.Mem.tail _ (List.Mem.tail _ (List.Mem.head _)))) ?_
                        refine TO.bin rfl rfl rfl rfl rfl rfl ?_
                        refine TO.move rfl rfl rfl rfl ?_
                        refine TO.decB (t := 118) (b' := false) rfl (decide_eq_false g75) ?_
                        refine TO.move rfl rfl rfl rfl ?_
                        refine TO.move rfl rfl rfl rfl ?_
                        refine TO.fieldAddr0 rfl rfl rfl rfl TWLFlowSums.f24_1 ?_
                        refine TO.load1 rfl rfl rfl rfl TWLFlowSums.s3 (List.Mem.head _) rfl ?_
                        refine TO.ixV hz35 hc33 hn32 g76 rfl rfl rfl rfl rfl TWLFlowSums.l25 TWLFlowSums.n2 ?_
                        refine TO.ldIV hz35 hc33 hn32 g76 rfl rfl rfl rfl TWLFlowSums.s2 (List.Mem.tail _ (List.Mem.tail _ (List.Mem.tail _ (List.Mem.head _)))) ?_
                        refine TO.negG g77 rfl rfl rfl rfl ?_
                        refine TO.bin rfl rfl rfl rfl rfl rfl ?_
                        refine TO.pickF rfl rfl rfl rfl rfl ?_
                        refine TO.move rfl rfl rfl rfl ?_
                        refine TO.decB (t := 128) (b' := false) rfl (decide_eq_false g78) ?_
                        refine TO.move rfl rfl rfl rfl ?_
                        refine TO.move rfl rfl rfl rfl ?_
                        refine TO.bin rfl rfl rfl rfl rfl rfl ?_
                        refine TO.neb rfl rfl rfl rfl rfl TWLFlowSums.u4 ?_
                        refine TO.pickF rfl rfl rfl rfl rfl ?_
                        refine TO.pickT rfl rfl rfl rfl rfl ?_
                        refine TO.pickF rfl rfl rfl rfl rfl ?_
                        refine TO.done ?_
                        refine X.seq_normal ?_
                        rcases ite_some H with ⟨g79, H⟩ | ⟨g79, H⟩
                        ·
                          refine T.condT rfl g79 ?_
                          refine T.seq ?_
                          refine T.regionL (ll := [0]) rfl ?_
                          refine TO.assign rfl rfl rfl rfl ?_
                          refine TO.done ?_
                          refine X.seq_normal ?_
                          refine T.ret ?_
                          refine X.then_ret ?_
                          obtain rfl := ret1 H
                          exact X.ret1 rfl rfl rfl rfl (Res.tmp rfl) Pick.nil ⟨rfl, rfl⟩
                        ·
                          refine T.condF rfl (Bool.eq_false_iff.2 g79) ?_
                          refine T.skip ?_
                          refine X.seq_normal ?_
                          refine T.seq ?_
                          rcases ite_some H with ⟨g80, H⟩ | ⟨g80, H⟩
                          ·
                            obtain ⟨r81, e82, H⟩ := bd_some H
                            refine T.regionL (ll := [0, 1, 2, 3, 4, 5, 6, 7, 8, 9, 10, 11, 12]) rfl ?_
                            refine TO.move rfl rfl rfl rfl ?_
                            refine TO.move rfl rfl rfl rfl ?_
                            refine TO.decB (t := 137) (b' := true) rfl g80 ?_
                            refine TO.shut rfl rfl rfl rfl ?_
                            refine TO.shut rfl rfl rfl rfl ?_
                            refine TO.shut rfl rfl rfl rfl ?_
                            refine TO.shutU rfl rfl rfl rfl ?_
                            refine TO.shutU rfl rfl rfl rfl ?_
                            refine TO.shut rfl rfl rfl rfl ?_
                            refine TO.pickT rfl rfl rfl rfl rfl ?_
                            refine TO.move rfl rfl rfl rfl ?_
                            refine TO.callX TWLFlowSums.c32 rfl rfl rfl rfl (fun wc hwc => w_acequialaw03_awake  wc  e82) ?_
                            rintro _ _ ⟨rfl, rfl⟩
                            refine TO.pickT rfl rfl rfl rfl rfl ?_
                            refine TO.assign rfl rfl rfl rfl ?_
                            refine TO.done ?_
                            refine X.seq_normal ?_
                            refine T.ret ?_
                            obtain rfl := ret1 H
                            exact X.ret1 rfl rfl rfl rfl (Res.tmp rfl) Pick.nil ⟨rfl, rfl⟩
                          ·
                            rcases ite_some H with ⟨g83, H⟩ | ⟨g83, H⟩
                            ·
                              rcases ite_some H with ⟨g84, H⟩ | ⟨g84, H⟩
                              ·
                                obtain ⟨r85, e86, H⟩ := bd_some H
                                refine T.regionL (ll := [0, 1, 2, 3, 4, 5, 6, 7, 8, 9, 10, 11, 12]) rfl ?_
                                refine TO.move rfl rfl rfl rfl ?_
                                refine TO.move rfl rfl rfl rfl ?_
                                refine TO.decB (t := 137) (b' := false) rfl (Bool.eq_false_iff.2 g80) ?_
                                refine TO.move rfl rfl rfl rfl ?_
                                refine TO.bin rfl rfl rfl rfl rfl rfl ?_
                                refine TO.move rfl rfl rfl rfl ?_
                                refine TO.decB (t := 140) (b' := true) rfl (decide_eq_true g83) ?_
                                refine TO.move rfl rfl rfl rfl ?_
                                refine TO.bin rfl rfl rfl rfl rfl rfl ?_
                                refine TO.pickT rfl rfl rfl rfl rfl ?_
                                refine TO.pickF rfl rfl rfl rfl rfl ?_
                                refine TO.move rfl rfl rfl rfl ?_
                                refine TO.decB (t := 145) (b' := true) rfl (decide_eq_true g84) ?_
                                refine TO.callX TWLFlowSums.c32 rfl rfl rfl rfl (fun wc hwc => w_acequialaw03_awake  wc  e86) ?_
                                rintro _ _ ⟨rfl, rfl⟩
                                refine TO.pickT rfl rfl rfl rfl rfl ?_
                                refine TO.assign rfl rfl rfl rfl ?_
                                refine TO.done ?_
                                refine X.seq_normal ?_
                                refine T.ret ?_
                                obtain rfl := ret1 H
                                exact X.ret1 rfl rfl rfl rfl (Res.tmp rfl) Pick.nil ⟨rfl, rfl⟩
                              ·
                                refine T.regionL (ll := [0, 1, 2, 3, 4, 5, 6, 7, 8, 9, 10, 11, 12]) rfl ?_
                                refine TO.move rfl rfl rfl rfl ?_
                                refine TO.move rfl rfl rfl rfl ?_
                                refine TO.decB (t := 137) (b' := false) rfl (Bool.eq_false_iff.2 g80) ?_
                                refine TO.move rfl rfl rfl rfl ?_
                                refine TO.bin rfl rfl rfl rfl rfl rfl ?_
                                refine TO.move rfl rfl rfl rfl ?_
                                refine TO.decB (t := 140) (b' := true) rfl (decide_eq_true g83) ?_
                                refine TO.move rfl rfl rfl rfl ?_
                                refine TO.bin rfl rfl rfl rfl rfl rfl ?_
                                refine TO.pickT rfl rfl rfl rfl rfl ?_
                                refine TO.pickF rfl rfl rfl rfl rfl ?_
                                refine TO.move rfl rfl rfl rfl ?_
                                refine TO.decB (t := 145) (b' := false) rfl (decide_eq_false g84) ?_
                                refine TO.shut rfl rfl rfl rfl ?_
                                refine TO.pickF rfl rfl rfl rfl rfl ?_
                                refine TO.assign rfl rfl rfl rfl ?_
                                refine TO.done ?_
                                refine X.seq_normal ?_
                                refine T.ret ?_
                                obtain rfl := ret1 H
                                exact X.ret1 rfl rfl rfl rfl (Res.tmp rfl) Pick.nil ⟨rfl, rfl⟩
                            ·
                              refine T.regionL (ll := [0, 1, 2, 3, 4, 5, 6, 7, 8, 9, 10, 11, 12]) rfl ?_
                              refine TO.move rfl rfl rfl rfl ?_
                              refine TO.move rfl rfl rfl rfl ?_
                              refine TO.decB (t := 137) (b' := false) rfl (Bool.eq_false_iff.2 g80) ?_
                              refine TO.move rfl rfl rfl rfl ?_
                              refine TO.bin rfl rfl rfl rfl rfl rfl ?_
                              refine TO.move rfl rfl rfl rfl ?_
                              refine TO.decB (t := 140) (b' := false) rfl (decide_eq_false g83) ?_
                              refine TO.shut rfl rfl rfl rfl ?_
                              refine TO.shut rfl rfl rfl rfl ?_
                              refine TO.pickF rfl rfl rfl rfl rfl ?_
                              refine TO.pickF rfl rfl rfl rfl rfl ?_
                              refine TO.move rfl rfl rfl rfl ?_
                              refine TO.shut rfl rfl rfl rfl ?_
                              refine TO.pickF rfl rfl rfl rfl rfl ?_
                              refine TO.assign rfl rfl rfl rfl ?_
                              refine TO.done ?_
                              refine X.seq_normal ?_
                              refine T.ret ?_
                              obtain rfl := ret1 H
                              exact X.ret1 rfl rfl rfl rfl (Res.tmp rfl) Pick.nil ⟨rfl, rfl⟩
                  ·
                    refine T.regionL (ll := [0, 1, 2, 3, 4, 5, 6, 7, 8, 9, 10, 11, 12, 13, 14, 15, 16, 17, 18, 19, 20, 21, 22, 23, 24, 25, 26, 27, 28, 29, 30, 31, 32, 33, 34, 35, 36, 37, 38, 39, 40, 41, 42, 43, 44, 45, 46, 47, 48, 49]) rfl ?_
                    refine TO.move rfl rfl rfl rfl ?_
                    refine TO.bin rfl rfl rfl rfl rfl rfl ?_
                    refine TO.move rfl rfl rfl rfl ?_
                    refine TO.decB (t := 88) (b' := false) rfl (decide_eq_false g65) ?_
                    refine TO.loadA rfl rfl rfl rfl TWLFlowSums.a24 (List.Mem.head _) rfl ?_
                    refine TO.move rfl rfl rfl rfl ?_
                    refine TO.callX TWLFlowSums.c30 rfl rfl rfl rfl (fun wc hwc => w_flow_Pre (n0 := r3) (f1 := r14) wc (hwc.rs (f := arcC) (s := 3) (xs := r3.Arcs) (j := j8) (fun _ => rfl) (List.Mem.tail _ (List.Mem.head _)) hn9 hc10 hz12) (hwc.rs (f := (intC .i64)) (s := 1) (xs := r14) (j := j19) (fun _ => rfl) (List.Mem.tail _ (List.Mem.tail _ (List.Mem.head _))) hn20 hc21 hz23) e67) ?_
                    rintro _ _ ⟨rfl, rfl⟩
                    refine TO.move rfl rfl rfl rfl ?_
                    refine TO.neb rfl rfl rfl rfl rfl TWLFlowSums.u4 ?_
                    refine TO.pickF rfl rfl rfl rfl rfl ?_
                    refine TO.move rfl rfl rfl rfl ?_
                    refine TO.decB (t := 95) (b' := false) rfl (Bool.eq_false_iff.2 g68) ?_
                    refine TO.loadA rfl rfl rfl rfl TWLFlowSums.a24 (List.Mem.head _) rfl ?_
                    refine TO.move rfl rfl rfl rfl ?_
                    refine TO.callX TWLFlowSums.c31 rfl rfl rfl rfl (fun wc hwc => w_flow_Right (n0 := r3) (f1 := r14) wc (hwc.rs (f := arcC) (s := 3) (xs := r3.Arcs) (j := j8) (fun _ => rfl) (List.Mem.tail _ (List.Mem.head _)) hn9 hc10 hz12) (hwc.rs (f := (intC .i64)) (s := 1) (xs := r14) (j := j19) (fun _ => rfl) (List.Mem.tail _ (List.Mem.tail _ (List.Mem.head _))) hn20 hc21 hz23) e70) ?_
                    rintro _ _ ⟨rfl, rfl⟩
                    refine TO.move rfl rfl rfl rfl ?_
                    refine TO.neb rfl rfl rfl rfl rfl TWLFlowSums.u4 ?_
                    refine TO.pickF rfl rfl rfl rfl rfl ?_
                    refine TO.move rfl rfl rfl rfl ?_
                    refine TO.decB (t := 102) (b' := false) rfl (Bool.eq_false_iff.2 g71) ?_
                    refine TO.move rfl rfl rfl rfl ?_
                    refine TO.bin rfl rfl rfl rfl rfl rfl ?_
                    refine TO.move rfl rfl rfl rfl ?_
                    refine TO.neb rfl rfl rfl rfl rfl TWLFlowSums.u4 ?_
                    refine TO.pickF rfl rfl rfl rfl rfl ?_
                    refine TO.move rfl rfl rfl rfl ?_
                    refine TO.decB (t := 108) (b' := false) rfl (Bool.eq_false_iff.2 g72) ?_
                    refine TO.move rfl rfl rfl rfl ?_
                    refine TO.move rfl rfl rfl rfl ?_
                    refine TO.decB (t := 110) (b' := false) rfl (Bool.eq_false_iff.2 g73) ?_
                    refine TO.shut rfl rfl rfl rfl ?_
                    refine TO.shut rfl rfl rfl rfl ?_
                    refine TO.shut rfl rfl rfl rfl ?_
                    refine TO.shut rfl rfl rfl rfl ?_
                    refine TO.shut rfl rfl rfl rfl ?_
                    refine TO.shut rfl rfl rfl rfl ?_
                    refine TO.shut rfl rfl rfl rfl ?_
                    refine TO.shut rfl rfl rfl rfl ?_
                    refine TO.shutU rfl rfl rfl rfl ?_
                    refine TO.shutU rfl rfl rfl rfl ?_
                    refine TO.shutU rfl rfl rfl rfl ?_
                    refine TO.shutU rfl rfl rfl rfl ?_
                    refine TO.shutU rfl rfl rfl rfl ?_
                    refine TO.shutU rfl rfl rfl rfl ?_
                    refine TO.shutU rfl rfl rfl rfl ?_
                    refine TO.shutU rfl rfl rfl rfl ?_
                    refine TO.shut rfl rfl rfl rfl ?_
                    refine TO.shut rfl rfl rfl rfl ?_
                    refine TO.shutU rfl rfl rfl rfl ?_
                    refine TO.shutU rfl rfl rfl rfl ?_
                    refine TO.shutU rfl rfl rfl rfl ?_
                    refine TO.shutU rfl rfl rfl rfl ?_
                    refine TO.shut rfl rfl rfl rfl ?_
                    refine TO.pickF rfl rfl rfl rfl rfl ?_
                    refine TO.pickF rfl rfl rfl rfl rfl ?_
                    refine TO.done ?_
                    refine X.seq_normal ?_
                    refine T.condF rfl rfl ?_
                    refine T.skip ?_
                    refine X.seq_normal ?_
                    refine T.seq ?_
                    rcases ite_some H with ⟨g87, H⟩ | ⟨g87, H⟩
                    ·
                      obtain ⟨r88, e89, H⟩ := bd_some H
                      refine T.regionL (ll := [0, 1, 2, 3, 4, 5, 6, 7, 8, 9, 10, 11, 12]) rfl ?_
                      refine TO.move rfl rfl rfl rfl ?_
                      refine TO.move rfl rfl rfl rfl ?_
                      refine TO.decB (t := 137) (b' := true) rfl g87 ?_
                      refine TO.shut rfl rfl rfl rfl ?_
                      refine TO.shut rfl rfl rfl rfl ?_
                      refine TO.shut rfl rfl rfl rfl ?_
                      refine TO.shutU rfl rfl rfl rfl ?_
                      refine TO.shutU rfl rfl rfl rfl ?_
                      refine TO.shut rfl rfl rfl rfl ?_
                      refine TO.pickT rfl rfl rfl rfl rfl ?_
                      refine TO.move rfl rfl rfl rfl ?_
                      refine TO.callX TWLFlowSums.c32 rfl rfl rfl rfl (fun wc hwc => w_acequialaw03_awake  wc  e89) ?_
                      rintro _ _ ⟨rfl, rfl⟩
                      refine TO.pickT rfl rfl rfl rfl rfl ?_
                      refine TO.assign rfl rfl rfl rfl ?_
                      refine TO.done ?_
                      refine X.seq_normal ?_
                      refine T.ret ?_
                      obtain rfl := ret1 H
                      exact X.ret1 rfl rfl rfl rfl (Res.tmp rfl) Pick.nil ⟨rfl, rfl⟩
                    ·
                      rcases ite_some H with ⟨g90, H⟩ | ⟨g90, H⟩
                      ·
                        rcases ite_some H with ⟨g91, H⟩ | ⟨g91, H⟩
                        ·
                          obtain ⟨r92, e93, H⟩ := bd_some H
                          refine T.regionL (ll := [0, 1, 2, 3, 4, 5, 6, 7, 8, 9, 10, 11, 12]) rfl ?_
                          refine TO.move rfl rfl rfl rfl ?_
                          refine TO.move rfl rfl rfl rfl ?_
                          refine TO.decB (t := 137) (b' := false) rfl (Bool.eq_false_iff.2 g87) ?_
                          refine TO.move rfl rfl rfl rfl ?_
                          refine TO.bin rfl rfl rfl rfl rfl rfl ?_
                          refine TO.move rfl rfl rfl rfl ?_
                          refine TO.decB (t := 140) (b' := true) rfl (decide_eq_true g90) ?_
                          refine TO.move rfl rfl rfl rfl ?_
                          refine TO.bin rfl rfl rfl rfl rfl rfl ?_
                          refine TO.pickT rfl rfl rfl rfl rfl ?_
                          refine TO.pickF rfl rfl rfl rfl rfl ?_
                          refine TO.move rfl rfl rfl rfl ?_
                          refine TO.decB (t := 145) (b' := true) rfl (decide_eq_true g91) ?_
                          refine TO.callX TWLFlowSums.c32 rfl rfl rfl rfl (fun wc hwc => w_acequialaw03_awake  wc  e93) ?_
                          rintro _ _ ⟨rfl, rfl⟩
                          refine TO.pickT rfl rfl rfl rfl rfl ?_
                          refine TO.assign rfl rfl rfl rfl ?_
                          refine TO.done ?_
                          refine X.seq_normal ?_
                          refine T.ret ?_
                          obtain rfl := ret1 H
                          exact X.ret1 rfl rfl rfl rfl (Res.tmp rfl) Pick.nil ⟨rfl, rfl⟩
                        ·
                          refine T.regionL (ll := [0, 1, 2, 3, 4, 5, 6, 7, 8, 9, 10, 11, 12]) rfl ?_
                          refine TO.move rfl rfl rfl rfl ?_
                          refine TO.move rfl rfl rfl rfl ?_
                          refine TO.decB (t := 137) (b' := false) rfl (Bool.eq_false_iff.2 g87) ?_
                          refine TO.move rfl rfl rfl rfl ?_
                          refine TO.bin rfl rfl rfl rfl rfl rfl ?_
                          refine TO.move rfl rfl rfl rfl ?_
                          refine TO.decB (t := 140) (b' := true) rfl (decide_eq_true g90) ?_
                          refine TO.move rfl rfl rfl rfl ?_
                          refine TO.bin rfl rfl rfl rfl rfl rfl ?_
                          refine TO.pickT rfl rfl rfl rfl rfl ?_
                          refine TO.pickF rfl rfl rfl rfl rfl ?_
                          refine TO.move rfl rfl rfl rfl ?_
                          refine TO.decB (t := 145) (b' := false) rfl (decide_eq_false g91) ?_
                          refine TO.shut rfl rfl rfl rfl ?_
                          refine TO.pickF rfl rfl rfl rfl rfl ?_
                          refine TO.assign rfl rfl rfl rfl ?_
                          refine TO.done ?_
                          refine X.seq_normal ?_
                          refine T.ret ?_
                          obtain rfl := ret1 H
                          exact X.ret1 rfl rfl rfl rfl (Res.tmp rfl) Pick.nil ⟨rfl, rfl⟩
                      ·
                        refine T.regionL (ll := [0, 1, 2, 3, 4, 5, 6, 7, 8, 9, 10, 11, 12]) rfl ?_
                        refine TO.move rfl rfl rfl rfl ?_
                        refine TO.move rfl rfl rfl rfl ?_
                        refine TO.decB (t := 137) (b' := false) rfl (Bool.eq_false_iff.2 g87) ?_
                        refine TO.move rfl rfl rfl rfl ?_
                        refine TO.bin rfl rfl rfl rfl rfl rfl ?_
                        refine TO.move rfl rfl rfl rfl ?_
                        refine TO.decB (t := 140) (b' := false) rfl (decide_eq_false g90) ?_
                        refine TO.shut rfl rfl rfl rfl ?_
                        refine TO.shut rfl rfl rfl rfl ?_
                        refine TO.pickF rfl rfl rfl rfl rfl ?_
                        refine TO.pickF rfl rfl rfl rfl rfl ?_
                        refine TO.move rfl rfl rfl rfl ?_
                        refine TO.shut rfl rfl rfl rfl ?_
                        refine TO.pickF rfl rfl rfl rfl rfl ?_
                        refine TO.assign rfl rfl rfl rfl ?_
                        refine TO.done ?_
                        refine X.seq_normal ?_
                        refine T.ret ?_
                        obtain rfl := ret1 H
                        exact X.ret1 rfl rfl rfl rfl (Res.tmp rfl) Pick.nil ⟨rfl, rfl⟩
end Go.Proofs.Ytcdbemdogkmahaa.Ax
