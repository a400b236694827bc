/- What a call does is what its model says: acequialaw04.CutGreatest, acequialaw04.greatest. (Printed by sx.py.) -/
import Derived.Test.YtcdbemdogkmahaaAcqMLCutGreatest
import Derived.Test.YtcdbemdogkmahaaAcqFull
import Derived.Test.YtcdbemdogkmahaaAcqWS4
namespace Go.Proofs.Ytcdbemdogkmahaa.Ax
open Go Go.Acq Go.RowKit Go.Proofs
set_option linter.unusedVariables false
set_option linter.unusedSimpArgs false
set_option maxHeartbeats 8000000
set_option maxRecDepth 20000
theorem TWLCutGreatest.a24 : aggT Try.prog 24 4 = true := by kernel_rfl
theorem TWLCutGreatest.a28 : aggT Try.prog 28 3 = true := by kernel_rfl
theorem TWLCutGreatest.a60 : aggT Try.prog 60 2 = true := by kernel_rfl
theorem TWLCutGreatest.b2 : bytesT Try.prog 2 = some 8 := by kernel_rfl
theorem TWLCutGreatest.b3 : bytesT Try.prog 3 = some 8 := by kernel_rfl
theorem TWLCutGreatest.b4 : bytesT Try.prog 4 = some 1 := by kernel_rfl
theorem TWLCutGreatest.b60 : bytesT Try.prog 60 = some 16 := by kernel_rfl
theorem TWLCutGreatest.c17 : callable Try.prog 17 = true := by kernel_rfl
theorem TWLCutGreatest.c29 : callable Try.prog 29 = true := by kernel_rfl
theorem TWLCutGreatest.c34 : callable Try.prog 34 = true := by kernel_rfl
theorem TWLCutGreatest.c35 : callable Try.prog 35 = true := by kernel_rfl
theorem TWLCutGreatest.c39 : callable Try.prog 39 = true := by kernel_rfl
theorem TWLCutGreatest.c40 : callable Try.prog 40 = true := by kernel_rfl
theorem TWLCutGreatest.c42 : callable Try.prog 42 = true := by kernel_rfl
theorem TWLCutGreatest.c43 : callable Try.prog 43 = true := by kernel_rfl
theorem TWLCutGreatest.c44 : callable Try.prog 44 = true := by kernel_rfl
theorem TWLCutGreatest.c46 : callable Try.prog 46 = true := by kernel_rfl
theorem TWLCutGreatest.c50 : callable Try.prog 50 = true := by kernel_rfl
theorem TWLCutGreatest.f24_0 : fieldT Try.prog 24 0 = some 0 := by kernel_rfl
theorem TWLCutGreatest.f24_1 : fieldT Try.prog 24 1 = some 1 := by kernel_rfl
theorem TWLCutGreatest.f24_2 : fieldT Try.prog 24 2 = some 2 := by kernel_rfl
theorem TWLCutGreatest.f24_3 : fieldT Try.prog 24 3 = some 3 := by kernel_rfl
theorem TWLCutGreatest.f28_0 : fieldT Try.prog 28 0 = some 0 := by kernel_rfl
theorem TWLCutGreatest.f28_1 : fieldT Try.prog 28 1 = some 1 := by kernel_rfl
theorem TWLCutGreatest.f28_2 : fieldT Try.prog 28 2 = some 2 := by kernel_rfl
theorem TWLCutGreatest.f60_0 : fieldT Try.prog 60 0 = some 0 := by kernel_rfl
theorem TWLCutGreatest.f60_1 : fieldT Try.prog 60 1 = some 1 := by kernel_rfl
theorem TWLCutGreatest.l22 : sliceT Try.prog 22 = some 28 := by kernel_rfl
theorem TWLCutGreatest.l25 : sliceT Try.prog 25 = some 2 := by kernel_rfl
theorem TWLCutGreatest.l30 : sliceT Try.prog 30 = some 3 := by kernel_rfl
theorem TWLCutGreatest.l31 : sliceT Try.prog 31 = some 4 := by kernel_rfl
theorem TWLCutGreatest.l54 : sliceT Try.prog 54 = some 60 := by kernel_rfl
theorem TWLCutGreatest.l81 : sliceT Try.prog 81 = some 31 := by kernel_rfl
theorem TWLCutGreatest.n2 : sizeT Try.prog 2 = some 1 := by kernel_rfl
theorem TWLCutGreatest.n24 : sizeT Try.prog 24 = some 4 := by kernel_rfl
theorem TWLCutGreatest.n28 : sizeT Try.prog 28 = some 3 := by kernel_rfl
theorem TWLCutGreatest.n3 : sizeT Try.prog 3 = some 1 := by kernel_rfl
theorem TWLCutGreatest.n31 : sizeT Try.prog 31 = some 1 := by kernel_rfl
theorem TWLCutGreatest.n4 : sizeT Try.prog 4 = some 1 := by kernel_rfl
theorem TWLCutGreatest.n60 : sizeT Try.prog 60 = some 2 := by kernel_rfl
theorem TWLCutGreatest.s2 : scalT Try.prog 2 = true := by kernel_rfl
theorem TWLCutGreatest.s22 : scalT Try.prog 22 = true := by kernel_rfl
theorem TWLCutGreatest.s3 : scalT Try.prog 3 = true := by kernel_rfl
theorem TWLCutGreatest.s31 : scalT Try.prog 31 = true := by kernel_rfl
theorem TWLCutGreatest.s4 : scalT Try.prog 4 = true := by kernel_rfl
theorem TWLCutGreatest.u4 : Try.prog.underlying 4 = some .bool := by kernel_rfl
theorem TWLCutGreatest.z2 : zeroT Try.prog 2 = some (.int .i64 0) := by kernel_rfl
theorem TWLCutGreatest.z28 : zeroT Try.prog 28 = some (.agg #[.int .i64 0, .int .i64 0, .int .i64 0]) := by kernel_rfl
theorem TWLCutGreatest.z3 : zeroT Try.prog 3 = some (.int .i64 0) := by kernel_rfl
theorem TWLCutGreatest.z31 : zeroT Try.prog 31 = some (.slice none 0 0) := by kernel_rfl
theorem TWLCutGreatest.z4 : zeroT Try.prog 4 = some (.bool false) := by kernel_rfl
theorem TWLCutGreatest.z60 : zeroT Try.prog 60 = some (.agg #[.int .i64 0, .bool false]) := by kernel_rfl
theorem TWLCutGreatestel30 : ElemT Try.prog 30 3 1 8 (.int .i64 0) := ⟨TWLCutGreatest.l30, TWLCutGreatest.n3, TWLCutGreatest.b3, TWLCutGreatest.z3, rfl⟩
theorem TWLCutGreatestel54 : ElemT Try.prog 54 60 2 16 (.agg #[.int .i64 0, .bool false]) := ⟨TWLCutGreatest.l54, TWLCutGreatest.n60, TWLCutGreatest.b60, TWLCutGreatest.z60, rfl⟩
/-- acequia/acequialaw04.greatest -/
theorem w_acequialaw04_greatest {n0 : Net} {n0_Arcs_b : Option Addr} {n0_Arcs_n : Nat} {n0_Arcs_c : Nat} (w : World) (h_n0_Arcs : RS w [] arcC 3 n0_Arcs_b n0_Arcs_n n0_Arcs_c n0.Arcs) {r0 : List Int} {r1 : Bool} (H : m_acequialaw04_greatest n0 = some (r0, r1)) : Fnc Try.prog 50 #[.agg #[.int .i64 n0.N, .int .i64 n0.S, .int .i64 n0.T, .slice n0_Arcs_b n0_Arcs_n n0_Arcs_c]] w [] (fun v N => ∃ (ob_0 : Option Nat) (n_0 : Nat) (c_0 : Nat) (j_0 : List Value), v = .tuple #[.slice (sb ob_0) n_0 c_0, .bool r1] ∧ N = [(ob_0, .cells (arr (intC .i64) r0 j_0).toArray 2 (0, 0))] ∧ r0.length = n_0 ∧ n_0 ≤ c_0 ∧ j_0.length = (c_0 - n_0) * 1 ∧ (ob_0 = none → c_0 = 0)) := by
  unfold m_acequialaw04_greatest at H
  refine Fnc.enter (vs := [.agg #[.int .i64 n0.N, .int .i64 n0.S, .int .i64 n0.T, .slice n0_Arcs_b n0_Arcs_n n0_Arcs_c]]) Try.func50 rfl rfl (Inv.refl w) ?_
  refine T.seq ?_
  refine T.regionL (ll := [0, 1, 2]) rfl ?_
  refine TO.boxA rfl rfl rfl rfl ?_; intro b1
  refine TO.assign rfl rfl rfl rfl ?_
  refine TO.assign rfl rfl rfl rfl ?_
  refine TO.done ?_
  refine X.seq_normal ?_
  refine T.seq ?_
  obtain ⟨g3, H⟩ := gd_some H
  refine T.regionL (ll := [0, 1, 2, 3, 4]) rfl ?_
  refine TO.fieldAddr0 rfl rfl rfl rfl TWLCutGreatest.f24_3 ?_
  refine TO.load1 rfl rfl rfl rfl TWLCutGreatest.s22 (List.Mem.head _) rfl ?_
  refine TO.lenX (xs := n0.Arcs) h_n0_Arcs.len rfl rfl rfl rfl rfl TWLCutGreatest.l22 ?_
  refine TO.mkI g3 rfl rfl rfl rfl rfl TWLCutGreatest.l25 TWLCutGreatest.n2 TWLCutGreatest.z2 TWLCutGreatest.b2 rfl ?_; intro b4
  refine TO.assign rfl rfl rfl rfl ?_
  refine TO.done ?_
  refine X.seq_normal ?_
  refine T.seq ?_
  refine T.seq ?_
  refine T.regionL (ll := [0]) rfl ?_
  refine TO.move rfl rfl rfl rfl ?_
  refine TO.done ?_
  refine X.seq_normal ?_
  refine T.meetSE5 (fun (f205 : List Int) (n206 : Nat) (c207 : Nat) (ob208 : Option Nat) (j209 : List Value) => m_acequialaw04_greatest_j13 f205 = some (r0, r1) ∧ f205.length = n206 ∧ n206 ≤ c207 ∧ j209.length = (c207 - n206) * 1 ∧ (ob208 = none → c207 = 0)) (fun (f205 : List Int) (n206 : Nat) (c207 : Nat) (ob208 : Option Nat) (j209 : List Value) => [(4, .slice (sb ob208) n206 c207)]) (fun (f205 : List Int) (n206 : Nat) (c207 : Nat) (ob208 : Option Nat) (j209 : List Value) => [(ob208, .cells (arr (intC .i64) f205 j209).toArray 2 (0, 0))]) ?_ ?_
  ·
    refine T.block ?_
    obtain ⟨o_1, e_1, K_1⟩ := bd_some H
    refine T.loopE7 (fun (m_1 : Nat) (f6 : List Int) (n7 : Nat) (c8 : Nat) (ob9 : Option Nat) (j10 : List Value) (x16 : Int) => loopM (fun s => m_acequialaw04_greatest_s1 n0 s.1 s.2) m_1 (f6, x16) = some o_1 ∧ f6.length = n7 ∧ n7 ≤ c8 ∧ j10.length = (c8 - n7) * 1 ∧ (ob9 = none → c8 = 0)) (fun (m_1 : Nat) (f6 : List Int) (n7 : Nat) (c8 : Nat) (ob9 : Option Nat) (j10 : List Value) (x16 : Int) => [(1, .pointer (some ⟨b1, 0, none⟩)), (4, .slice (sb ob9) n7 c8), (22, .int .i64 x16)]) (fun (m_1 : Nat) (f6 : List Int) (n7 : Nat) (c8 : Nat) (ob9 : Option Nat) (j10 : List Value) (x16 : Int) => [(some b1, .cells #[.int .i64 n0.N, .int .i64 n0.S, .int .i64 n0.T, .slice n0_Arcs_b n0_Arcs_n n0_Arcs_c] 24 (0, 0)), (ob9, .cells (arr (intC .i64) f6 j10).toArray 2 (0, 0))]) (fun (m_1 : Nat) (f6 : List Int) (n7 : Nat) (c8 : Nat) (ob9 : Option Nat) (j10 : List Value) (x16 : Int) => m_1) FUEL (List.replicate ((n0.Arcs.length : Int).toNat) (0 : Int)) ((n0.Arcs.length : Int).toNat) ((n0.Arcs.length : Int).toNat) (some b4) ([]) 0 ⟨e_1, List.length_replicate, (Nat.le_refl _), (zeroJ _ _), someZ⟩ (AllF.cons rfl (AllF.cons rfl (AllF.cons rfl AllF.nil))) (Pick.cons (Take.tail (Take.head _ _)) (Pick.cons (Take.head _ _) Pick.nil)) ?_
    rintro m_1 f6 n7 c8 ob9 j10 x16 ⟨H, hn11, hc12, hj13, hz14⟩
    obtain ⟨n_1, r_1, rfl, H, C_1⟩ := loopM_some H
    have H : m_acequialaw04_greatest_s1 n0 f6 x16 = some r_1 := H
    unfold m_acequialaw04_greatest_s1 at H
    refine T.seq ?_
    refine T.regionL (ll := [0]) rfl ?_
    refine TO.bin rfl rfl rfl rfl rfl rfl ?_
    refine TO.done ?_
    refine X.seq_normal ?_
    refine T.seq ?_
    rcases ite_some H with ⟨g17, H⟩ | ⟨g17, H⟩
    ·
      refine T.condPT rfl g17 ?_
      refine T.skip ?_
      refine X.seq_normal ?_
      refine T.seq ?_
      refine T.meetSE5 (fun (f194 : List Int) (n195 : Nat) (c196 : Nat) (ob197 : Option Nat) (j198 : List Value) => m_acequialaw04_greatest_j12 x16 f194 = some r_1 ∧ f194.length = n195 ∧ n195 ≤ c196 ∧ j198.length = (c196 - n195) * 1 ∧ (ob197 = none → c196 = 0)) (fun (f194 : List Int) (n195 : Nat) (c196 : Nat) (ob197 : Option Nat) (j198 : List Value) => [(1, .pointer (some ⟨b1, 0, none⟩)), (4, .slice (sb ob197) n195 c196), (22, .int .i64 x16)]) (fun (f194 : List Int) (n195 : Nat) (c196 : Nat) (ob197 : Option Nat) (j198 : List Value) => [(some b1, .cells #[.int .i64 n0.N, .int .i64 n0.S, .int .i64 n0.T, .slice n0_Arcs_b n0_Arcs_n n0_Arcs_c] 24 (0, 0)), (ob197, .cells (arr (intC .i64) f194 j198).toArray 2 (0, 0))]) ?_ ?_
      ·
        refine T.block ?_
        refine T.seq ?_
        obtain ⟨g18, H⟩ := gd_some H
        refine T.regionL (ll := [0, 1, 2, 3]) rfl ?_
        refine TO.fieldAddr0 rfl rfl rfl rfl TWLCutGreatest.f24_0 ?_
        refine TO.load1 rfl rfl rfl rfl TWLCutGreatest.s3 (List.Mem.head _) rfl ?_
        refine TO.mkS (f := hopC) (zc := default) g18 rfl rfl rfl rfl rfl rfl rfl rfl TWLCutGreatest.l54 TWLCutGreatest.n60 TWLCutGreatest.z60 TWLCutGreatest.b60 rfl ?_; intro b19
        refine TO.assign rfl rfl rfl rfl ?_
        refine TO.done ?_
        refine X.seq_normal ?_
        refine T.seq ?_
        obtain ⟨g21, H⟩ := gd_some H
        refine T.regionL (ll := [0, 1, 2, 3]) rfl ?_
        refine TO.fieldAddr0 rfl rfl rfl rfl TWLCutGreatest.f24_0 ?_
        refine TO.load1 rfl rfl rfl rfl TWLCutGreatest.s3 (List.Mem.tail _ (List.Mem.head _)) rfl ?_
        refine TO.mkB g21 rfl rfl rfl rfl rfl TWLCutGreatest.l31 TWLCutGreatest.n4 TWLCutGreatest.z4 TWLCutGreatest.b4 rfl ?_; intro b22
        refine TO.assign rfl rfl rfl rfl ?_
        refine TO.done ?_
        refine X.seq_normal ?_
        refine T.seq ?_
        obtain ⟨g24, H⟩ := gd_some H
        refine T.regionL (ll := [0, 1, 2, 3, 4]) rfl ?_
        refine TO.move rfl rfl rfl rfl ?_
        refine TO.fieldAddr0 rfl rfl rfl rfl TWLCutGreatest.f24_1 ?_
        refine TO.load1 rfl rfl rfl rfl TWLCutGreatest.s3 (List.Mem.tail _ (List.Mem.tail _ (List.Mem.head _))) rfl ?_
        refine TO.ix1 List.length_replicate g24 rfl rfl rfl rfl rfl TWLCutGreatest.l31 TWLCutGreatest.n4 ?_
        refine TO.stBO g24 rfl rfl rfl rfl (Take.head _ _) TWLCutGreatest.n4 ?_
        refine TO.done ?_
        refine X.seq_normal ?_
        refine T.trim (AllF.cons (t := 1) rfl (AllF.cons (t := 4) rfl (AllF.cons (t := 22) rfl (AllF.cons (t := 5) rfl (AllF.cons (t := 6) rfl AllF.nil))))) ?_
        refine T.seq ?_
        refine T.regionL (ll := [0, 1, 2, 3]) rfl ?_
        refine TO.fieldAddr0 rfl rfl rfl rfl TWLCutGreatest.f24_1 ?_
        refine TO.load1 rfl rfl rfl rfl TWLCutGreatest.s3 (List.Mem.tail _ (List.Mem.tail _ (List.Mem.head _))) rfl ?_
        refine TO.buildSliceS [.int .i64 0] [0] rfl rfl rfl rfl TWLCutGreatest.l30 TWLCutGreatest.n3 TWLCutGreatest.z3 rfl rfl (by simp only [setAll, setCells, Value.cells, List.toList_toArray, List.getD_cons_zero, List.getD_cons_succ, List.set_cons_zero, List.set_cons_succ]; rfl) (by kernel_rfl) ?_; intro b25
        refine TO.assign rfl rfl rfl rfl ?_
        refine TO.done ?_
        refine X.seq_normal ?_
        refine T.seq ?_
        refine T.seq ?_
        refine T.regionL (ll := [0]) rfl ?_
        refine TO.assign rfl rfl rfl rfl ?_
        refine TO.done ?_
        refine X.seq_normal ?_
        refine T.meetSE2 (fun (xs131 : List Hop) (xs133 : List Bool) => m_acequialaw04_greatest_j8 n0 f6 x16 xs131 xs133 = some r_1 ∧ xs131.length = n0.N.toNat ∧ xs133.length = n0.N.toNat) (fun (xs131 : List Hop) (xs133 : List Bool) => [(1, .pointer (some ⟨b1, 0, none⟩)), (4, .slice (sb ob9) n7 c8), (5, .slice (some ⟨b19, 0, none⟩) n0.N.toNat n0.N.toNat), (6, .slice (some ⟨b22, 0, none⟩) n0.N.toNat n0.N.toNat), (22, .int .i64 x16)]) (fun (xs131 : List Hop) (xs133 : List Bool) => [(some b1, .cells #[.int .i64 n0.N, .int .i64 n0.S, .int .i64 n0.T, .slice n0_Arcs_b n0_Arcs_n n0_Arcs_c] 24 (0, 0)), (ob9, .cells (arr (intC .i64) f6 j10).toArray 2 (0, 0)), (some b19, .cells (arr hopC xs131 ([])).toArray 60 (0, 0)), (some b22, .cells (arr boolC xs133 ([])).toArray 4 (0, 0))]) ?_ ?_
        ·
          refine T.block ?_
          obtain ⟨o_2, e_2, K_2⟩ := bd_some H
          refine T.loopE9 (fun (m_2 : Nat) (xs27 : List Hop) (xs29 : List Bool) (row31 : List Int) (n32 : Nat) (c33 : Nat) (ob34 : Option Nat) (j35 : List Value) (i41 : Int) => loopM (fun s => m_acequialaw04_greatest_s2 n0 f6 s.1 s.2.1 s.2.2.1 s.2.2.2) m_2 (xs27, xs29, row31, i41) = some o_2 ∧ xs27.length = n0.N.toNat ∧ xs29.length = n0.N.toNat ∧ row31.length = n32 ∧ n32 ≤ c33 ∧ j35.length = (c33 - n32) * 1 ∧ (ob34 = none → c33 = 0)) (fun (m_2 : Nat) (xs27 : List Hop) (xs29 : List Bool) (row31 : List Int) (n32 : Nat) (c33 : Nat) (ob34 : Option Nat) (j35 : List Value) (i41 : Int) => [(1, .pointer (some ⟨b1, 0, none⟩)), (4, .slice (sb ob9) n7 c8), (5, .slice (some ⟨b19, 0, none⟩) n0.N.toNat n0.N.toNat), (6, .slice (some ⟨b22, 0, none⟩) n0.N.toNat n0.N.toNat), (7, .slice (sb ob34) n32 c33), (8, .int .i64 i41), (22, .int .i64 x16)]) (fun (m_2 : Nat) (xs27 : List Hop) (xs29 : List Bool) (row31 : List Int) (n32 : Nat) (c33 : Nat) (ob34 : Option Nat) (j35 : List Value) (i41 : Int) => [(some b1, .cells #[.int .i64 n0.N, .int .i64 n0.S, .int .i64 n0.T, .slice n0_Arcs_b n0_Arcs_n n0_Arcs_c] 24 (0, 0)), (ob9, .cells (arr (intC .i64) f6 j10).toArray 2 (0, 0)), (some b19, .cells (arr hopC xs27 ([])).toArray 60 (0, 0)), (some b22, .cells (arr boolC xs29 ([])).toArray 4 (0, 0)), (ob34, .cells (arr (intC .i64) row31 j35).toArray 3 (0, 0))]) (fun (m_2 : Nat) (xs27 : List Hop) (xs29 : List Bool) (row31 : List Int) (n32 : Nat) (c33 : Nat) (ob34 : Option Nat) (j35 : List Value) (i41 : Int) => m_2) FUEL (List.replicate n0.N.toNat (default : Hop)) ((List.replicate n0.N.toNat (false : Bool)).set n0.S.toNat true) ([n0.S]) 1 1 (some b25) ([]) 0 ⟨e_2, List.length_replicate, (List.length_set.trans List.length_replicate), rfl, (Nat.le_refl _), (zeroJ _ _), someZ⟩ (AllF.cons rfl (AllF.cons rfl (AllF.cons rfl (AllF.cons rfl (AllF.cons rfl (AllF.cons rfl (AllF.cons rfl AllF.nil))))))) (Pick.cons (Take.tail (Take.tail (Take.tail (Take.head _ _)))) (Pick.cons (Take.tail (Take.tail (Take.tail (Take.head _ _)))) (Pick.cons (Take.tail (Take.tail (Take.head _ _))) (Pick.cons (Take.tail (Take.head _ _)) (Pick.cons (Take.head _ _) Pick.nil))))) ?_
          rintro m_2 xs27 xs29 row31 n32 c33 ob34 j35 i41 ⟨H, hn28, hn30, hn36, hc37, hj38, hz39⟩
          obtain ⟨n_2, r_2, rfl, H, C_2⟩ := loopM_some H
          have H : m_acequialaw04_greatest_s2 n0 f6 xs27 xs29 row31 i41 = some r_2 := H
          unfold m_acequialaw04_greatest_s2 at H
          refine T.seq ?_
          refine T.seq ?_
          refine T.regionL (ll := [0, 1, 2, 3]) rfl ?_
          refine TO.move rfl rfl rfl rfl ?_
          refine TO.move rfl rfl rfl rfl ?_
          refine TO.lenX (xs := row31) hn36 rfl rfl rfl rfl rfl TWLCutGreatest.l30 ?_
          refine TO.bin rfl rfl rfl rfl rfl rfl ?_
          refine TO.done ?_
          refine X.seq_normal ?_
          rcases ite_some H with ⟨g42, H⟩ | ⟨g42, H⟩
          ·
            refine T.condPT rfl g42 ?_
            refine T.skip ?_
            refine X.seq_normal ?_
            refine T.seq ?_
            refine T.meetSE7 (fun (xs116 : List Hop) (xs118 : List Bool) (row120 : List Int) (n121 : Nat) (c122 : Nat) (ob123 : Option Nat) (j124 : List Value) => m_acequialaw04_greatest_j7 i41 xs116 xs118 row120 = some r_2 ∧ xs116.length = n0.N.toNat ∧ xs118.length = n0.N.toNat ∧ row120.length = n121 ∧ n121 ≤ c122 ∧ j124.length = (c122 - n121) * 1 ∧ (ob123 = none → c122 = 0)) (fun (xs116 : List Hop) (xs118 : List Bool) (row120 : List Int) (n121 : Nat) (c122 : Nat) (ob123 : Option Nat) (j124 : List Value) => [(1, .pointer (some ⟨b1, 0, none⟩)), (4, .slice (sb ob9) n7 c8), (5, .slice (some ⟨b19, 0, none⟩) n0.N.toNat n0.N.toNat), (6, .slice (some ⟨b22, 0, none⟩) n0.N.toNat n0.N.toNat), (7, .slice (sb ob123) n121 c122), (8, .int .i64 i41), (22, .int .i64 x16)]) (fun (xs116 : List Hop) (xs118 : List Bool) (row120 : List Int) (n121 : Nat) (c122 : Nat) (ob123 : Option Nat) (j124 : List Value) => [(some b1, .cells #[.int .i64 n0.N, .int .i64 n0.S, .int .i64 n0.T, .slice n0_Arcs_b n0_Arcs_n n0_Arcs_c] 24 (0, 0)), (ob9, .cells (arr (intC .i64) f6 j10).toArray 2 (0, 0)), (some b19, .cells (arr hopC xs116 ([])).toArray 60 (0, 0)), (some b22, .cells (arr boolC xs118 ([])).toArray 4 (0, 0)), (ob123, .cells (arr (intC .i64) row120 j124).toArray 3 (0, 0))]) ?_ ?_
            ·
              refine T.block ?_
              refine T.seq ?_
              refine T.regionL (ll := [0, 1, 2, 3]) rfl ?_
              refine TO.fieldAddr0 rfl rfl rfl rfl TWLCutGreatest.f24_3 ?_
              refine TO.load1 rfl rfl rfl rfl TWLCutGreatest.s22 (List.Mem.head _) rfl ?_
              refine TO.lenX (xs := n0.Arcs) h_n0_Arcs.len rfl rfl rfl rfl rfl TWLCutGreatest.l22 ?_
              refine TO.move rfl rfl rfl rfl ?_
              refine TO.done ?_
              refine X.seq_normal ?_
              refine T.block ?_
              obtain ⟨o_3, e_3, K_3⟩ := bd_some H
              refine T.loopE9 (fun (m_3 : Nat) (xs43 : List Hop) (xs45 : List Bool) (row47 : List Int) (n48 : Nat) (c49 : Nat) (ob50 : Option Nat) (j51 : List Value) (x57 : Int) => loopM (fun s => m_acequialaw04_greatest_s3 n0 f6 i41 s.1 s.2.1 s.2.2.1 s.2.2.2) m_3 (xs43, xs45, row47, x57) = some o_3 ∧ xs43.length = n0.N.toNat ∧ xs45.length = n0.N.toNat ∧ row47.length = n48 ∧ n48 ≤ c49 ∧ j51.length = (c49 - n48) * 1 ∧ (ob50 = none → c49 = 0)) (fun (m_3 : Nat) (xs43 : List Hop) (xs45 : List Bool) (row47 : List Int) (n48 : Nat) (c49 : Nat) (ob50 : Option Nat) (j51 : List Value) (x57 : Int) => [(1, .pointer (some ⟨b1, 0, none⟩)), (4, .slice (sb ob9) n7 c8), (5, .slice (some ⟨b19, 0, none⟩) n0.N.toNat n0.N.toNat), (6, .slice (some ⟨b22, 0, none⟩) n0.N.toNat n0.N.toNat), (7, .slice (sb ob50) n48 c49), (8, .int .i64 i41), (22, .int .i64 x16), (44, .slice n0_Arcs_b n0_Arcs_n n0_Arcs_c), (45, .int .i64 (n0.Arcs.length : Int)), (46, .int .i64 x57)]) (fun (m_3 : Nat) (xs43 : List Hop) (xs45 : List Bool) (row47 : List Int) (n48 : Nat) (c49 : Nat) (ob50 : Option Nat) (j51 : List Value) (x57 : Int) => [(some b1, .cells #[.int .i64 n0.N, .int .i64 n0.S, .int .i64 n0.T, .slice n0_Arcs_b n0_Arcs_n n0_Arcs_c] 24 (0, 0)), (ob9, .cells (arr (intC .i64) f6 j10).toArray 2 (0, 0)), (some b19, .cells (arr hopC xs43 ([])).toArray 60 (0, 0)), (some b22, .cells (arr boolC xs45 ([])).toArray 4 (0, 0)), (ob50, .cells (arr (intC .i64) row47 j51).toArray 3 (0, 0))]) (fun (m_3 : Nat) (xs43 : List Hop) (xs45 : List Bool) (row47 : List Int) (n48 : Nat) (c49 : Nat) (ob50 : Option Nat) (j51 : List Value) (x57 : Int) => m_3) FUEL xs27 xs29 row31 n32 c33 ob34 j35 0 ⟨e_3, hn28, hn30, hn36, hc37, hj38, hz39⟩ (AllF.cons rfl (AllF.cons rfl (AllF.cons rfl (AllF.cons rfl (AllF.cons rfl (AllF.cons rfl (AllF.cons rfl (AllF.cons rfl (AllF.cons rfl (AllF.cons rfl AllF.nil)))))))))) (Pick.cons (Take.head _ _) (Pick.cons (Take.head _ _) (Pick.cons (Take.head _ _) (Pick.cons (Take.head _ _) (Pick.cons (Take.head _ _) Pick.nil))))) ?_
              rintro m_3 xs43 xs45 row47 n48 c49 ob50 j51 x57 ⟨H, hn44, hn46, hn52, hc53, hj54, hz55⟩
              obtain ⟨n_3, r_3, rfl, H, C_3⟩ := loopM_some H
              have H : m_acequialaw04_greatest_s3 n0 f6 i41 xs43 xs45 row47 x57 = some r_3 := H
              unfold m_acequialaw04_greatest_s3 at H
              refine T.seq ?_
              refine T.regionL (ll := [0]) rfl ?_
              refine TO.bin rfl rfl rfl rfl rfl rfl ?_
              refine TO.done ?_
              refine X.seq_normal ?_
              refine T.seq ?_
              rcases ite_some H with ⟨g58, H⟩ | ⟨g58, H⟩
              ·
                refine T.condPT rfl g58 ?_
                refine T.skip ?_
                refine X.seq_normal ?_
                refine T.seq ?_
                refine T.block ?_
                refine T.seq ?_
                obtain ⟨g59, H⟩ := gd_some H
                refine T.regionL (ll := [0, 1, 2, 3, 4, 5]) rfl ?_
                refine TO.move rfl rfl rfl rfl ?_
                refine TO.ixR h_n0_Arcs g59 rfl rfl rfl rfl rfl TWLCutGreatest.l22 TWLCutGreatest.n28 ?_
                refine TO.ldSR (cs := [.int .i64 ((n0.Arcs.getD x57.toNat default).fr), .int .i64 ((n0.Arcs.getD x57.toNat default).to), .int .i64 ((n0.Arcs.getD x57.toNat default).cap)]) default h_n0_Arcs g59 rfl rfl rfl rfl rfl TWLCutGreatest.a28 ?_
                refine TO.allocA rfl rfl rfl TWLCutGreatest.z28 ?_; intro b60
                refine TO.assign rfl rfl rfl rfl ?_
                refine TO.storeA rfl rfl rfl rfl (Take.head _ _) TWLCutGreatest.n28 rfl rfl rfl ?_
                refine TO.done ?_
                refine X.seq_normal ?_
                refine T.seq ?_
                refine T.seq ?_
                refine T.meetSE1 (fun (x67 : Bool) => m_acequialaw04_greatest_j4 n0 f6 i41 xs43 xs45 row47 x57 x67 = some r_3) (fun (x67 : Bool) => [(1, .pointer (some ⟨b1, 0, none⟩)), (4, .slice (sb ob9) n7 c8), (5, .slice (some ⟨b19, 0, none⟩) n0.N.toNat n0.N.toNat), (6, .slice (some ⟨b22, 0, none⟩) n0.N.toNat n0.N.toNat), (7, .slice (sb ob50) n48 c49), (8, .int .i64 i41), (9, .int .i64 x57), (10, .pointer (some ⟨b60, 0, none⟩)), (22, .int .i64 x16), (44, .slice n0_Arcs_b n0_Arcs_n n0_Arcs_c), (45, .int .i64 (n0.Arcs.length : Int)), (46, .int .i64 x57), (74, .bool x67)]) (fun (x67 : Bool) => [(some b1, .cells #[.int .i64 n0.N, .int .i64 n0.S, .int .i64 n0.T, .slice n0_Arcs_b n0_Arcs_n n0_Arcs_c] 24 (0, 0)), (ob9, .cells (arr (intC .i64) f6 j10).toArray 2 (0, 0)), (some b19, .cells (arr hopC xs43 ([])).toArray 60 (0, 0)), (some b22, .cells (arr boolC xs45 ([])).toArray 4 (0, 0)), (ob50, .cells (arr (intC .i64) row47 j51).toArray 3 (0, 0)), (some b60, .cells #[.int .i64 ((n0.Arcs.getD x57.toNat default).fr), .int .i64 ((n0.Arcs.getD x57.toNat default).to), .int .i64 ((n0.Arcs.getD x57.toNat default).cap)] 28 (0, 0))]) ?_ ?_
                ·
                  obtain ⟨g62, H⟩ := gd_some H
                  rcases ite_some H with ⟨g63, H⟩ | ⟨g63, H⟩
                  ·
                    obtain ⟨g64, H⟩ := gd_some H
                    rcases ite_some H with ⟨g65, H⟩ | ⟨g65, H⟩
                    ·
                      obtain ⟨g66, H⟩ := gd_some H
                      refine T.drawS 22 [0, 1, 2, 3, 4, 5, 6, 7, 8, 9, 10, 11, 12, 13, 14, 15, 16, 17, 18, 19, 20, 21] rfl mixed (by kernel_rfl) (by kernel_rfl) rfl (by kernel_rfl) ?_
                      refine TQ.fieldAddr0 rfl rfl rfl rfl TWLCutGreatest.f28_0 ?_
                      refine TQ.load1 rfl rfl rfl rfl TWLCutGreatest.s3 (List.Mem.head _) rfl ?_
                      refine TQ.move rfl rfl rfl rfl ?_
                      refine TQ.move rfl rfl rfl rfl ?_
                      refine TQ.ixV hz55 hc53 hn52 g62 rfl rfl rfl rfl rfl TWLCutGreatest.l30 TWLCutGreatest.n3 ?_
                      refine TQ.ldIV hz55 hc53 hn52 g62 rfl rfl rfl rfl TWLCutGreatest.s3 (List.Mem.tail _ (List.Mem.tail _ (List.Mem.tail _ (List.Mem.tail _ (List.Mem.tail _ (List.Mem.head _)))))) ?_
                      refine TQ.bin rfl rfl rfl rfl rfl rfl ?_
                      refine TQ.move rfl rfl rfl rfl ?_
                      refine TQ.decB (t := 58) (b' := true) rfl (decide_eq_true g63) ?_
                      refine TQ.move rfl rfl rfl rfl ?_
                      refine TQ.fieldAddr0 rfl rfl rfl rfl TWLCutGreatest.f28_1 ?_
                      refine TQ.load1 rfl rfl rfl rfl TWLCutGreatest.s3 (List.Mem.head _) rfl ?_
                      refine TQ.ix1 hn46 g64 rfl rfl rfl rfl rfl TWLCutGreatest.l31 TWLCutGreatest.n4 ?_
                      refine TQ.ldBO g64 rfl rfl rfl rfl TWLCutGreatest.s4 (List.Mem.tail _ (List.Mem.tail _ (List.Mem.tail _ (List.Mem.tail _ (List.Mem.head _))))) ?_
                      refine TQ.not rfl rfl rfl rfl ?_
                      refine TQ.pickT rfl rfl rfl rfl rfl ?_
                      refine TQ.move rfl rfl rfl rfl ?_
                      refine TQ.decB (t := 66) (b' := true) rfl g65 ?_
                      refine TQ.move rfl rfl rfl rfl ?_
                      refine TQ.move rfl rfl rfl rfl ?_
                      refine TQ.ixV hz14 hc12 hn11 g66 rfl rfl rfl rfl rfl TWLCutGreatest.l25 TWLCutGreatest.n2 ?_
                      refine TQ.ldIV hz14 hc12 hn11 g66 rfl rfl rfl rfl TWLCutGreatest.s2 (List.Mem.tail _ (List.Mem.tail _ (List.Mem.head _))) ?_
                      refine TQ.fieldAddr0 rfl rfl rfl rfl TWLCutGreatest.f28_2 ?_
                      refine TQ.load1 rfl rfl rfl rfl TWLCutGreatest.s2 (List.Mem.head _) rfl ?_
                      refine TQ.tail [22, 23] rfl rfl ?_
                      refine TO.bin rfl rfl rfl rfl rfl rfl ?_
                      refine TO.pickT rfl rfl rfl rfl rfl ?_
                      refine TO.done ?_
                      exact X.metE1 (decide ((f6.getD x57.toNat 0) < ((n0.Arcs.getD x57.toNat default).cap))) H (AllF.cons rfl (AllF.cons rfl (AllF.cons rfl (AllF.cons rfl (AllF.cons rfl (AllF.cons rfl (AllF.cons rfl (AllF.cons rfl (AllF.cons rfl (AllF.cons rfl (AllF.cons rfl (AllF.cons rfl (AllF.cons rfl AllF.nil))))))))))))) (Pick.cons (Take.tail (Take.head _ _)) (Pick.cons (Take.tail (Take.head _ _)) (Pick.cons (Take.tail (Take.head _ _)) (Pick.cons (Take.tail (Take.head _ _)) (Pick.cons (Take.tail (Take.head _ _)) (Pick.cons (Take.head _ _) Pick.nil))))))
                    ·
                      refine T.drawS 22 [0, 1, 2, 3, 4, 5, 6, 7, 8, 9, 10, 11, 12, 13, 14, 15, 16, 17, 18, 19, 20, 21] rfl mixed (by kernel_rfl) (by kernel_rfl) rfl (by kernel_rfl) ?_
                      refine TQ.fieldAddr0 rfl rfl rfl rfl TWLCutGreatest.f28_0 ?_
                      refine TQ.load1 rfl rfl rfl rfl TWLCutGreatest.s3 (List.Mem.head _) rfl ?_
                      refine TQ.move rfl rfl rfl rfl ?_
                      refine TQ.move rfl rfl rfl rfl ?_
                      refine TQ.ixV hz55 hc53 hn52 g62 rfl rfl rfl rfl rfl TWLCutGreatest.l30 TWLCutGreatest.n3 ?_
                      refine TQ.ldIV hz55 hc53 hn52 g62 rfl rfl rfl rfl TWLCutGreatest.s3 (List.Mem.tail _ (List.Mem.tail _ (List.Mem.tail _ (List.Mem.tail _ (List.Mem.tail _ (List.Mem.head _)))))) ?_
                      refine TQ.bin rfl rfl rfl rfl rfl rfl ?_
                      refine TQ.move rfl rfl rfl rfl ?_
                      refine TQ.decB (t := 58) (b' := true) rfl (decide_eq_true g63) ?_
                      refine TQ.move rfl rfl rfl rfl ?_
                      refine TQ.fieldAddr0 rfl rfl rfl rfl TWLCutGreatest.f28_1 ?_
                      refine TQ.load1 rfl rfl rfl rfl TWLCutGreatest.s3 (List.Mem.head _) rfl ?_
                      refine TQ.ix1 hn46 g64 rfl rfl rfl rfl rfl TWLCutGreatest.l31 TWLCutGreatest.n4 ?_
                      refine TQ.ldBO g64 rfl rfl rfl rfl TWLCutGreatest.s4 (List.Mem.tail _ (List.Mem.tail _ (List.Mem.tail _ (List.Mem.tail _ (List.Mem.head _))))) ?_
                      refine TQ.not rfl rfl rfl rfl ?_
                      refine TQ.pickT rfl rfl rfl rfl rfl ?_
                      refine TQ.move rfl rfl rfl rfl ?_
                      refine TQ.decB (t := 66) (b' := false) rfl (Bool.eq_false_iff.2 g65) ?_
                      refine TQ.shut rfl rfl rfl rfl ?_
                      refine TQ.shut rfl rfl rfl rfl ?_
                      refine TQ.shut rfl rfl rfl rfl ?_
                      refine TQ.shut rfl rfl rfl rfl ?_
                      refine TQ.shut rfl rfl rfl rfl ?_
                      refine TQ.shut rfl rfl rfl rfl ?_
                      refine TQ.tail [22, 23] rfl rfl ?_
                      refine TO.shut rfl rfl rfl rfl ?_
                      refine TO.pickF rfl rfl rfl rfl rfl ?_
                      refine TO.done ?_
                      exact X.metE1 false H (AllF.cons rfl (AllF.cons rfl (AllF.cons rfl (AllF.cons rfl (AllF.cons rfl (AllF.cons rfl (AllF.cons rfl (AllF.cons rfl (AllF.cons rfl (AllF.cons rfl (AllF.cons rfl (AllF.cons rfl (AllF.cons rfl AllF.nil))))))))))))) (Pick.cons (Take.tail (Take.head _ _)) (Pick.cons (Take.tail (Take.head _ _)) (Pick.cons (Take.tail (Take.head _ _)) (Pick.cons (Take.tail (Take.head _ _)) (Pick.cons (Take.tail (Take.head _ _)) (Pick.cons (Take.head _ _) Pick.nil))))))
                  ·
                    refine T.drawS 22 [0, 1, 2, 3, 4, 5, 6, 7, 8, 9, 10, 11, 12, 13, 14, 15, 16, 17, 18, 19, 20, 21] rfl mixed (by kernel_rfl) (by kernel_rfl) rfl (by kernel_rfl) ?_
                    refine TQ.fieldAddr0 rfl rfl rfl rfl TWLCutGreatest.f28_0 ?_
                    refine TQ.load1 rfl rfl rfl rfl TWLCutGreatest.s3 (List.Mem.head _) rfl ?_
                    refine TQ.move rfl rfl rfl rfl ?_
                    refine TQ.move rfl rfl rfl rfl ?_
                    refine TQ.ixV hz55 hc53 hn52 g62 rfl rfl rfl rfl rfl TWLCutGreatest.l30 TWLCutGreatest.n3 ?_
                    refine TQ.ldIV hz55 hc53 hn52 g62 rfl rfl rfl rfl TWLCutGreatest.s3 (List.Mem.tail _ (List.Mem.tail _ (List.Mem.tail _ (List.Mem.tail _ (List.Mem.tail _ (List.Mem.head _)))))) ?_
                    refine TQ.bin rfl rfl rfl rfl rfl rfl ?_
                    refine TQ.move rfl rfl rfl rfl ?_
                    refine TQ.decB (t := 58) (b' := false) rfl (decide_eq_false g63) ?_
                    refine TQ.shut rfl rfl rfl rfl ?_
                    refine TQ.shut rfl rfl rfl rfl ?_
                    refine TQ.shut rfl rfl rfl rfl ?_
                    refine TQ.shut rfl rfl rfl rfl ?_
                    refine TQ.shut rfl rfl rfl rfl ?_
                    refine TQ.shut rfl rfl rfl rfl ?_
                    refine TQ.pickF rfl rfl rfl rfl rfl ?_
                    refine TQ.move rfl rfl rfl rfl ?_
                    refine TQ.shut rfl rfl rfl rfl ?_
                    refine TQ.shut rfl rfl rfl rfl ?_
                    refine TQ.shut rfl rfl rfl rfl ?_
                    refine TQ.shut rfl rfl rfl rfl ?_
                    refine TQ.shut rfl rfl rfl rfl ?_
                    refine TQ.shut rfl rfl rfl rfl ?_
                    refine TQ.tail [22, 23] rfl rfl ?_
                    refine TO.shut rfl rfl rfl rfl ?_
                    refine TO.pickF rfl rfl rfl rfl rfl ?_
                    refine TO.done ?_
                    exact X.metE1 false H (AllF.cons rfl (AllF.cons rfl (AllF.cons rfl (AllF.cons rfl (AllF.cons rfl (AllF.cons rfl (AllF.cons rfl (AllF.cons rfl (AllF.cons rfl (AllF.cons rfl (AllF.cons rfl (AllF.cons rfl (AllF.cons rfl AllF.nil))))))))))))) (Pick.cons (Take.tail (Take.head _ _)) (Pick.cons (Take.tail (Take.head _ _)) (Pick.cons (Take.tail (Take.head _ _)) (Pick.cons (Take.tail (Take.head _ _)) (Pick.cons (Take.tail (Take.head _ _)) (Pick.cons (Take.head _ _) Pick.nil))))))
                · rintro x67 H
                  unfold m_acequialaw04_greatest_j4 at H
                  refine T.meetSE7 (fun (xs81 : List Hop) (xs83 : List Bool) (row85 : List Int) (n86 : Nat) (c87 : Nat) (ob88 : Option Nat) (j89 : List Value) => m_acequialaw04_greatest_j5 n0 f6 i41 x57 xs81 xs83 row85 = some r_3 ∧ xs81.length = n0.N.toNat ∧ xs83.length = n0.N.toNat ∧ row85.length = n86 ∧ n86 ≤ c87 ∧ j89.length = (c87 - n86) * 1 ∧ (ob88 = none → c87 = 0)) (fun (xs81 : List Hop) (xs83 : List Bool) (row85 : List Int) (n86 : Nat) (c87 : Nat) (ob88 : Option Nat) (j89 : List Value) => [(1, .pointer (some ⟨b1, 0, none⟩)), (4, .slice (sb ob9) n7 c8), (5, .slice (some ⟨b19, 0, none⟩) n0.N.toNat n0.N.toNat), (6, .slice (some ⟨b22, 0, none⟩) n0.N.toNat n0.N.toNat), (7, .slice (sb ob88) n86 c87), (8, .int .i64 i41), (9, .int .i64 x57), (10, .pointer (some ⟨b60, 0, none⟩)), (22, .int .i64 x16), (44, .slice n0_Arcs_b n0_Arcs_n n0_Arcs_c), (45, .int .i64 (n0.Arcs.length : Int)), (46, .int .i64 x57)]) (fun (xs81 : List Hop) (xs83 : List Bool) (row85 : List Int) (n86 : Nat) (c87 : Nat) (ob88 : Option Nat) (j89 : List Value) => [(some b1, .cells #[.int .i64 n0.N, .int .i64 n0.S, .int .i64 n0.T, .slice n0_Arcs_b n0_Arcs_n n0_Arcs_c] 24 (0, 0)), (ob9, .cells (arr (intC .i64) f6 j10).toArray 2 (0, 0)), (some b19, .cells (arr hopC xs81 ([])).toArray 60 (0, 0)), (some b22, .cells (arr boolC xs83 ([])).toArray 4 (0, 0)), (ob88, .cells (arr (intC .i64) row85 j89).toArray 3 (0, 0)), (some b60, .cells #[.int .i64 ((n0.Arcs.getD x57.toNat default).fr), .int .i64 ((n0.Arcs.getD x57.toNat default).to), .int .i64 ((n0.Arcs.getD x57.toNat default).cap)] 28 (0, 0))]) ?_ ?_
                  ·
                    rcases ite_some H with ⟨g68, H⟩ | ⟨g68, H⟩
                    ·
                      refine T.condT rfl g68 ?_
                      refine T.seq ?_
                      obtain ⟨g69, H⟩ := gd_some H
                      obtain ⟨g70, H⟩ := gd_some H
                      apply T.drawL [⟨[], false, [], relV _⟩, ⟨[], false, [], relV _⟩, ⟨[1], false, [], relV _⟩, ⟨[], false, [], relV _⟩, ⟨[], false, [], relV _⟩, ⟨[4], false, [], relV _⟩, ⟨[], false, [], relV _⟩, ⟨[6], false, [], relV _⟩, ⟨[0, 2], false, [], relV _⟩, ⟨[0, 2, 8], true, [], relN⟩] [75, 76, 77, 78, 79, 80, 81, 82, 83] 10 (HRk [[(some b22, .cells (arr boolC xs45 ([])).toArray 4 (0, 0))], [(some b22, .cells (arr boolC (xs45.set ((n0.Arcs.getD x57.toNat default).to).toNat true) ([])).toArray 4 (0, 0))]]) [[], []] [(some b22, .cells (arr boolC xs45 ([])).toArray 4 (0, 0))] [(some b1, .cells #[.int .i64 n0.N, .int .i64 n0.S, .int .i64 n0.T, .slice n0_Arcs_b n0_Arcs_n n0_Arcs_c] 24 (0, 0)), (ob9, .cells (arr (intC .i64) f6 j10).toArray 2 (0, 0)), (some b19, .cells (arr hopC xs43 ([])).toArray 60 (0, 0)), (ob50, .cells (arr (intC .i64) row47 j51).toArray 3 (0, 0)), (some b60, .cells #[.int .i64 ((n0.Arcs.getD x57.toNat default).fr), .int .i64 ((n0.Arcs.getD x57.toNat default).to), .int .i64 ((n0.Arcs.getD x57.toNat default).cap)] 28 (0, 0))]
                      · exact mixed
                      · exact rfl
                      · kernel_rfl
                      · kernel_rfl
                      · kernel_rfl
                      · exact rfl
                      · exact rfl
                      · exact rfl
                      · exact rfl
                      · exact (by repeat (first | exact Pick.refl _ | exact Pick.nil | apply Pick.none | refine Pick.cons (by repeat (first | exact Take.head _ _ | apply Take.tail)) ?_))
                      · refine ⟨?_, ?_, ?_, ?_, ?_, ?_, ?_, ?_, ?_, ?_, trivial⟩
                        · rintro vs es Es Hx -
                          refine TO.reenv (D := []) rfl ?_
                          refine TO.move rfl rfl rfl rfl ?_
                          refine TO.done ?_; exact X.obQ rfl ⟨rfl, rfl⟩ (Pick.refl _) rfl
                        · rintro vs es Es Hx -
                          refine TO.reenv (D := []) rfl ?_
                          refine TO.fieldAddr0 rfl rfl rfl rfl TWLCutGreatest.f28_1 ?_
                          refine TO.done ?_; exact X.obQ rfl ⟨rfl, rfl⟩ (Pick.refl _) rfl
                        · rintro vs es Es Hx ⟨⟨h_1, e_1⟩, -⟩
                          refine TO.reenv (D := [(76, vs 1)]) rfl ?_; rw [h_1]
                          refine TO.load1 rfl rfl rfl rfl TWLCutGreatest.s3 (List.Mem.tail _ (List.Mem.tail _ (List.Mem.tail _ (List.Mem.tail _ (List.Mem.head _))))) rfl ?_
                          refine TO.done ?_; exact X.obQ rfl ⟨rfl, rfl⟩ (Pick.refl _) (by show [(76, vs 1)] = _; rw [h_1])
                        · rintro vs es Es Hx -
                          refine TO.reenv (D := []) rfl ?_
                          refine TO.move rfl rfl rfl rfl ?_
                          refine TO.done ?_; exact X.obQ rfl ⟨rfl, rfl⟩ (Pick.refl _) rfl
                        · rintro vs es Es Hx -
                          refine TO.reenv (D := []) rfl ?_
                          refine TO.fieldAddr0 rfl rfl rfl rfl TWLCutGreatest.f28_1 ?_
                          refine TO.done ?_; exact X.obQ rfl ⟨rfl, rfl⟩ (Pick.refl _) rfl
                        · rintro vs es Es Hx ⟨⟨h_4, e_4⟩, -⟩
                          refine TO.reenv (D := [(79, vs 4)]) rfl ?_; rw [h_4]
                          refine TO.load1 rfl rfl rfl rfl TWLCutGreatest.s3 (List.Mem.tail _ (List.Mem.tail _ (List.Mem.tail _ (List.Mem.tail _ (List.Mem.head _))))) rfl ?_
                          refine TO.done ?_; exact X.obQ rfl ⟨rfl, rfl⟩ (Pick.refl _) (by show [(79, vs 4)] = _; rw [h_4])
                        · rintro vs es Es Hx -
                          refine TO.reenv (D := []) rfl ?_
                          refine TO.move rfl rfl rfl rfl ?_
                          refine TO.done ?_; exact X.obQ rfl ⟨rfl, rfl⟩ (Pick.refl _) rfl
                        · rintro vs es Es Hx ⟨⟨h_6, e_6⟩, -⟩
                          refine TO.reenv (D := [(81, vs 6)]) rfl ?_; rw [h_6]
                          refine TO.buildS (t := 60) [.int .i64 0, .bool false] [0, 1] rfl rfl rfl rfl (by simp only [setAll, setCells, Value.cells, List.toList_toArray, List.getD_cons_zero, List.getD_cons_succ, List.set_cons_zero, List.set_cons_succ]; rfl) (by kernel_rfl) ?_
                          refine TO.done ?_; exact X.obQ rfl ⟨rfl, rfl⟩ (Pick.refl _) (by show [(81, vs 6)] = _; rw [h_6])
                        · rintro vs es Es Hx ⟨⟨h_0, e_0⟩, ⟨h_2, e_2⟩, -⟩
                          refine TO.reenv (D := [(75, vs 0), (77, vs 2)]) rfl ?_; rw [h_0, h_2]
                          refine TO.ix1 hn46 g69 rfl rfl rfl rfl rfl TWLCutGreatest.l31 TWLCutGreatest.n4 ?_
                          refine TO.done ?_; exact X.obQ rfl ⟨rfl, rfl⟩ (Pick.refl _) (by show [(75, vs 0), (77, vs 2)] = _; rw [h_0, h_2])
                        · rintro vs es Es Hx hb ⟨⟨h_0, e_0⟩, ⟨h_2, e_2⟩, ⟨h_8, e_8⟩, -⟩ hHR
                          obtain rfl : hb = [(some b22, .cells (arr boolC xs45 ([])).toArray 4 (0, 0))] := hHR
                          refine TO.reenv (D := [(75, vs 0), (77, vs 2), (83, vs 8)]) rfl ?_; rw [h_0, h_2, h_8]
                          refine TO.stBO g69 rfl rfl rfl rfl (Take.head _ _) TWLCutGreatest.n4 ?_
                          refine TO.done ?_; exact X.obE (hb' := [(some b22, .cells (arr boolC (xs45.set ((n0.Arcs.getD x57.toNat default).to).toNat true) ([])).toArray 4 (0, 0))]) rfl rfl rfl (by repeat (first | exact Pick.refl _ | exact Pick.nil | apply Pick.none | refine Pick.cons (by repeat (first | exact Take.head _ _ | apply Take.tail)) ?_)) (by show [(75, vs 0), (77, vs 2), (83, vs 8)] = _; rw [h_0, h_2, h_8])
                      · rintro vs es hb ⟨⟨h_0, e_0⟩, ⟨h_1, e_1⟩, ⟨h_2, e_2⟩, ⟨h_3, e_3⟩, ⟨h_4, e_4⟩, ⟨h_5, e_5⟩, ⟨h_6, e_6⟩, ⟨h_7, e_7⟩, ⟨h_8, e_8⟩, e_9, -⟩ hHR
                        obtain rfl : hb = [(some b22, .cells (arr boolC (xs45.set ((n0.Arcs.getD x57.toNat default).to).toNat true) ([])).toArray 4 (0, 0))] := hHR
                        refine TO.reenv (D := [(75, vs 0), (76, vs 1), (77, vs 2), (78, vs 3), (79, vs 4), (80, vs 5), (81, vs 6), (82, vs 7), (83, vs 8)]) rfl ?_
                        refine TO.reheap (H := [(some b22, .cells (arr boolC (xs45.set ((n0.Arcs.getD x57.toNat default).to).toNat true) ([])).toArray 4 (0, 0)), (some b1, .cells #[.int .i64 n0.N, .int .i64 n0.S, .int .i64 n0.T, .slice n0_Arcs_b n0_Arcs_n n0_Arcs_c] 24 (0, 0)), (ob9, .cells (arr (intC .i64) f6 j10).toArray 2 (0, 0)), (some b19, .cells (arr hopC xs43 ([])).toArray 60 (0, 0)), (ob50, .cells (arr (intC .i64) row47 j51).toArray 3 (0, 0)), (some b60, .cells #[.int .i64 ((n0.Arcs.getD x57.toNat default).fr), .int .i64 ((n0.Arcs.getD x57.toNat default).to), .int .i64 ((n0.Arcs.getD x57.toNat default).cap)] 28 (0, 0))]) (by show _ ++ (_ ++ (es 0 ++ (es 1 ++ (es 2 ++ (es 3 ++ (es 4 ++ (es 5 ++ (es 6 ++ (es 7 ++ (es 8 ++ (es 9 ++ ([])))))))))))) = _; rw [e_0, e_1, e_2, e_3, e_4, e_5, e_6, e_7, e_8, e_9]; rfl) ?_
                        rw [h_0, h_1, h_2, h_3, h_4, h_5, h_6, h_7, h_8]
                        clear h_8 h_7 h_6 h_5 h_4 h_3 h_2 h_1 h_0 e_0 e_1 e_2 e_3 e_4 e_5 e_6 e_7 e_8 e_9
                        refine TO.ix0 hn44 g70 rfl rfl rfl rfl rfl TWLCutGreatest.l54 TWLCutGreatest.n60 ?_
                        refine TO.stSO (v := (Hop.mk x57 false)) (f := hopC) (cs := [.int .i64 x57, .bool false]) (fun _ => rfl) (fun _ => rfl) g70 rfl rfl rfl rfl rfl (Take.tail (Take.tail (Take.tail (Take.head _ _)))) TWLCutGreatest.n60 ?_
                        refine TO.done ?_
                        refine X.seq_normal ?_
                        refine T.trim (AllF.cons (t := 1) rfl (AllF.cons (t := 4) rfl (AllF.cons (t := 5) rfl (AllF.cons (t := 6) rfl (AllF.cons (t := 7) rfl (AllF.cons (t := 8) rfl (AllF.cons (t := 9) rfl (AllF.cons (t := 10) rfl (AllF.cons (t := 22) rfl (AllF.cons (t := 44) rfl (AllF.cons (t := 45) rfl (AllF.cons (t := 46) rfl AllF.nil)))))))))))) ?_
                        obtain ⟨g73, H⟩ := gd_some H
                        refine T.regionL (ll := [0, 1, 2, 3, 4, 5]) rfl ?_
                        refine TO.move rfl rfl rfl rfl ?_
                        refine TO.fieldAddr0 rfl rfl rfl rfl TWLCutGreatest.f28_1 ?_
                        refine TO.load1 rfl rfl rfl rfl TWLCutGreatest.s3 (List.Mem.tail _ (List.Mem.tail _ (List.Mem.tail _ (List.Mem.tail _ (List.Mem.tail _ (List.Mem.head _)))))) rfl ?_
                        refine TO.buildSliceS [.int .i64 0] [0] rfl rfl rfl rfl TWLCutGreatest.l30 TWLCutGreatest.n3 TWLCutGreatest.z3 rfl rfl (by simp only [setAll, setCells, Value.cells, List.toList_toArray, List.getD_cons_zero, List.getD_cons_succ, List.set_cons_zero, List.set_cons_succ]; rfl) (by kernel_rfl) ?_; intro b71
                        refine TO.app (f := (intC .i64)) (s := 1) (xs := row47) (ob := ob50) (j := j51) (ys := [(n0.Arcs.getD x57.toNat default).to]) (fun _ => rfl) (fun _ => rfl) TWLCutGreatestel30 g73 rfl rfl rfl rfl rfl (Take.tail (Take.tail (Take.tail (Take.tail (Take.tail (Take.head _ _)))))) hn52 hc53 hj54 hz55 (fun wc hwc => (hwc.rs (f := (intC .i64)) (s := 1) (xs := [(n0.Arcs.getD x57.toNat default).to]) (j := ([])) (fun _ => rfl) (List.Mem.head _) rfl (Nat.le_refl _) someZ)) ?_; intro ob74 c75 j76 hc77 hj78 hz79
                        refine TO.assign rfl rfl rfl rfl ?_
                        refine TO.done ?_
                        exact X.metE7 (xs43.set ((n0.Arcs.getD x57.toNat default).to).toNat (Hop.mk x57 false)) (xs45.set ((n0.Arcs.getD x57.toNat default).to).toNat true) (row47 ++ ([(n0.Arcs.getD x57.toNat default).to])) (n48 + 1) c75 ob74 j76 ⟨H, (List.length_set.trans hn44), (List.length_set.trans hn46), (lenApp hn52 rfl), hc77, hj78, hz79⟩ (AllF.cons rfl (AllF.cons rfl (AllF.cons rfl (AllF.cons rfl (AllF.cons rfl (AllF.cons rfl (AllF.cons rfl (AllF.cons rfl (AllF.cons rfl (AllF.cons rfl (AllF.cons rfl (AllF.cons rfl AllF.nil)))))))))))) (Pick.cons (Take.tail (Take.tail (Take.tail (Take.tail (Take.head _ _))))) (Pick.cons (Take.tail (Take.tail (Take.tail (Take.tail (Take.head _ _))))) (Pick.cons (Take.tail (Take.tail (Take.head _ _))) (Pick.cons (Take.tail (Take.tail (Take.head _ _))) (Pick.cons (Take.head _ _) (Pick.cons (Take.tail (Take.head _ _)) Pick.nil))))))
                    ·
                      refine T.condF rfl (Bool.eq_false_iff.2 g68) ?_
                      refine T.skip ?_
                      exact X.metE7 xs43 xs45 row47 n48 c49 ob50 j51 ⟨H, hn44, hn46, hn52, hc53, hj54, hz55⟩ (AllF.cons rfl (AllF.cons rfl (AllF.cons rfl (AllF.cons rfl (AllF.cons rfl (AllF.cons rfl (AllF.cons rfl (AllF.cons rfl (AllF.cons rfl (AllF.cons rfl (AllF.cons rfl (AllF.cons rfl AllF.nil)))))))))))) (Pick.cons (Take.head _ _) (Pick.cons (Take.head _ _) (Pick.cons (Take.head _ _) (Pick.cons (Take.head _ _) (Pick.cons (Take.head _ _) (Pick.cons (Take.head _ _) Pick.nil))))))
                  · rintro xs81 xs83 row85 n86 c87 ob88 j89 ⟨H, hn82, hn84, hn90, hc91, hj92, hz93⟩
                    unfold m_acequialaw04_greatest_j5 at H
                    refine T.seq ?_
                    refine T.meetSE1 (fun (x100 : Bool) => m_acequialaw04_greatest_j6 n0 x57 xs81 xs83 row85 x100 = some r_3) (fun (x100 : Bool) => [(1, .pointer (some ⟨b1, 0, none⟩)), (4, .slice (sb ob9) n7 c8), (5, .slice (some ⟨b19, 0, none⟩) n0.N.toNat n0.N.toNat), (6, .slice (some ⟨b22, 0, none⟩) n0.N.toNat n0.N.toNat), (7, .slice (sb ob88) n86 c87), (8, .int .i64 i41), (9, .int .i64 x57), (10, .pointer (some ⟨b60, 0, none⟩)), (22, .int .i64 x16), (44, .slice n0_Arcs_b n0_Arcs_n n0_Arcs_c), (45, .int .i64 (n0.Arcs.length : Int)), (46, .int .i64 x57), (111, .bool x100)]) (fun (x100 : Bool) => [(some b1, .cells #[.int .i64 n0.N, .int .i64 n0.S, .int .i64 n0.T, .slice n0_Arcs_b n0_Arcs_n n0_Arcs_c] 24 (0, 0)), (ob9, .cells (arr (intC .i64) f6 j10).toArray 2 (0, 0)), (some b19, .cells (arr hopC xs81 ([])).toArray 60 (0, 0)), (some b22, .cells (arr boolC xs83 ([])).toArray 4 (0, 0)), (ob88, .cells (arr (intC .i64) row85 j89).toArray 3 (0, 0)), (some b60, .cells #[.int .i64 ((n0.Arcs.getD x57.toNat default).fr), .int .i64 ((n0.Arcs.getD x57.toNat default).to), .int .i64 ((n0.Arcs.getD x57.toNat default).cap)] 28 (0, 0))]) ?_ ?_
                    ·
                      obtain ⟨g95, H⟩ := gd_some H
                      rcases ite_some H with ⟨g96, H⟩ | ⟨g96, H⟩
                      ·
                        obtain ⟨g97, H⟩ := gd_some H
                        rcases ite_some H with ⟨g98, H⟩ | ⟨g98, H⟩
                        ·
                          obtain ⟨g99, H⟩ := gd_some H
                          refine T.drawS 18 [0, 1, 2, 3, 4, 5, 6, 7, 8, 9, 10, 11, 12, 13, 14, 15, 16, 17] rfl mixed (by kernel_rfl) (by kernel_rfl) rfl (by kernel_rfl) ?_
                          refine TQ.fieldAddr0 rfl rfl rfl rfl TWLCutGreatest.f28_1 ?_
                          refine TQ.load1 rfl rfl rfl rfl TWLCutGreatest.s3 (List.Mem.tail _ (List.Mem.tail _ (List.Mem.tail _ (List.Mem.tail _ (List.Mem.tail _ (List.Mem.head _)))))) rfl ?_
                          refine TQ.move rfl rfl rfl rfl ?_
                          refine TQ.move rfl rfl rfl rfl ?_
                          refine TQ.ixV hz93 hc91 hn90 g95 rfl rfl rfl rfl rfl TWLCutGreatest.l30 TWLCutGreatest.n3 ?_
                          refine TQ.ldIV hz93 hc91 hn90 g95 rfl rfl rfl rfl TWLCutGreatest.s3 (List.Mem.tail _ (List.Mem.tail _ (List.Mem.tail _ (List.Mem.tail _ (List.Mem.head _))))) ?_
                          refine TQ.bin rfl rfl rfl rfl rfl rfl ?_
                          refine TQ.move rfl rfl rfl rfl ?_
                          refine TQ.decB (t := 97) (b' := true) rfl (decide_eq_true g96) ?_
                          refine TQ.move rfl rfl rfl rfl ?_
                          refine TQ.fieldAddr0 rfl rfl rfl rfl TWLCutGreatest.f28_0 ?_
                          refine TQ.load1 rfl rfl rfl rfl TWLCutGreatest.s3 (List.Mem.tail _ (List.Mem.tail _ (List.Mem.tail _ (List.Mem.tail _ (List.Mem.tail _ (List.Mem.head _)))))) rfl ?_
                          refine TQ.ix1 hn84 g97 rfl rfl rfl rfl rfl TWLCutGreatest.l31 TWLCutGreatest.n4 ?_
                          refine TQ.ldBO g97 rfl rfl rfl rfl TWLCutGreatest.s4 (List.Mem.tail _ (List.Mem.tail _ (List.Mem.tail _ (List.Mem.head _)))) ?_
                          refine TQ.not rfl rfl rfl rfl ?_
                          refine TQ.pickT rfl rfl rfl rfl rfl ?_
                          refine TQ.move rfl rfl rfl rfl ?_
                          refine TQ.decB (t := 105) (b' := true) rfl g98 ?_
                          refine TQ.move rfl rfl rfl rfl ?_
                          refine TQ.move rfl rfl rfl rfl ?_
                          refine TQ.tail [18, 19, 20, 21] rfl rfl ?_
                          refine TO.ixV hz14 hc12 hn11 g99 rfl rfl rfl rfl rfl TWLCutGreatest.l25 TWLCutGreatest.n2 ?_
                          refine TO.ldIV hz14 hc12 hn11 g99 rfl rfl rfl rfl TWLCutGreatest.s2 (List.Mem.tail _ (List.Mem.head _)) ?_
                          refine TO.bin rfl rfl rfl rfl rfl rfl ?_
                          refine TO.pickT rfl rfl rfl rfl rfl ?_
                          refine TO.done ?_
                          exact X.metE1 (decide (0 < (f6.getD x57.toNat 0))) H (AllF.cons rfl (AllF.cons rfl (AllF.cons rfl (AllF.cons rfl (AllF.cons rfl (AllF.cons rfl (AllF.cons rfl (AllF.cons rfl (AllF.cons rfl (AllF.cons rfl (AllF.cons rfl (AllF.cons rfl (AllF.cons rfl AllF.nil))))))))))))) (Pick.cons (Take.head _ _) (Pick.cons (Take.head _ _) (Pick.cons (Take.head _ _) (Pick.cons (Take.head _ _) (Pick.cons (Take.head _ _) (Pick.cons (Take.head _ _) Pick.nil))))))
                        ·
                          refine T.drawS 18 [0, 1, 2, 3, 4, 5, 6, 7, 8, 9, 10, 11, 12, 13, 14, 15, 16, 17] rfl mixed (by kernel_rfl) (by kernel_rfl) rfl (by kernel_rfl) ?_
                          refine TQ.fieldAddr0 rfl rfl rfl rfl TWLCutGreatest.f28_1 ?_
                          refine TQ.load1 rfl rfl rfl rfl TWLCutGreatest.s3 (List.Mem.tail _ (List.Mem.tail _ (List.Mem.tail _ (List.Mem.tail _ (List.Mem.tail _ (List.Mem.head _)))))) rfl ?_
                          refine TQ.move rfl rfl rfl rfl ?_
                          refine TQ.move rfl rfl rfl rfl ?_
                          refine TQ.ixV hz93 hc91 hn90 g95 rfl rfl rfl rfl rfl TWLCutGreatest.l30 TWLCutGreatest.n3 ?_
                          refine TQ.ldIV hz93 hc91 hn90 g95 rfl rfl rfl rfl TWLCutGreatest.s3 (List.Mem.tail _ (List.Mem.tail _ (List.Mem.tail _ (List.Mem.tail _ (List.Mem.head _))))) ?_
                          refine TQ.bin rfl rfl rfl rfl rfl rfl ?_
                          refine TQ.move rfl rfl rfl rfl ?_
                          refine TQ.decB (t := 97) (b' := true) rfl (decide_eq_true g96) ?_
                          refine TQ.move rfl rfl rfl rfl ?_
                          refine TQ.fieldAddr0 rfl rfl rfl rfl TWLCutGreatest.f28_0 ?_
                          refine TQ.load1 rfl rfl rfl rfl TWLCutGreatest.s3 (List.Mem.tail _ (List.Mem.tail _ (List.Mem.tail _ (List.Mem.tail _ (List.Mem.tail _ (List.Mem.head _)))))) rfl ?_
                          refine TQ.ix1 hn84 g97 rfl rfl rfl rfl rfl TWLCutGreatest.l31 TWLCutGreatest.n4 ?_
                          refine TQ.ldBO g97 rfl rfl rfl rfl TWLCutGreatest.s4 (List.Mem.tail _ (List.Mem.tail _ (List.Mem.tail _ (List.Mem.head _)))) ?_
                          refine TQ.not rfl rfl rfl rfl ?_
                          refine TQ.pickT rfl rfl rfl rfl rfl ?_
                          refine TQ.move rfl rfl rfl rfl ?_
                          refine TQ.decB (t := 105) (b' := false) rfl (Bool.eq_false_iff.2 g98) ?_
                          refine TQ.shut rfl rfl rfl rfl ?_
                          refine TQ.shut rfl rfl rfl rfl ?_
                          refine TQ.tail [18, 19, 20, 21] rfl rfl ?_
                          refine TO.shut rfl rfl rfl rfl ?_
                          refine TO.shut rfl rfl rfl rfl ?_
                          refine TO.shut rfl rfl rfl rfl ?_
                          refine TO.pickF rfl rfl rfl rfl rfl ?_
                          refine TO.done ?_
                          exact X.metE1 false H (AllF.cons rfl (AllF.cons rfl (AllF.cons rfl (AllF.cons rfl (AllF.cons rfl (AllF.cons rfl (AllF.cons rfl (AllF.cons rfl (AllF.cons rfl (AllF.cons rfl (AllF.cons rfl (AllF.cons rfl (AllF.cons rfl AllF.nil))))))))))))) (Pick.cons (Take.head _ _) (Pick.cons (Take.head _ _) (Pick.cons (Take.head _ _) (Pick.cons (Take.head _ _) (Pick.cons (Take.head _ _) (Pick.cons (Take.head _ _) Pick.nil))))))
                      ·
                        refine T.drawS 18 [0, 1, 2, 3, 4, 5, 6, 7, 8, 9, 10, 11, 12, 13, 14, 15, 16, 17] rfl mixed (by kernel_rfl) (by kernel_rfl) rfl (by kernel_rfl) ?_
                        refine TQ.fieldAddr0 rfl rfl rfl rfl TWLCutGreatest.f28_1 ?_
                        refine TQ.load1 rfl rfl rfl rfl TWLCutGreatest.s3 (List.Mem.tail _ (List.Mem.tail _ (List.Mem.tail _ (List.Mem.tail _ (List.Mem.tail _ (List.Mem.head _)))))) rfl ?_
                        refine TQ.move rfl rfl rfl rfl ?_
                        refine TQ.move rfl rfl rfl rfl ?_
                        refine TQ.ixV hz93 hc91 hn90 g95 rfl rfl rfl rfl rfl TWLCutGreatest.l30 TWLCutGreatest.n3 ?_
                        refine TQ.ldIV hz93 hc91 hn90 g95 rfl rfl rfl rfl TWLCutGreatest.s3 (List.Mem.tail _ (List.Mem.tail _ (List.Mem.tail _ (List.Mem.tail _ (List.Mem.head _))))) ?_
                        refine TQ.bin rfl rfl rfl rfl rfl rfl ?_
                        refine TQ.move rfl rfl rfl rfl ?_
                        refine TQ.decB (t := 97) (b' := false) rfl (decide_eq_false g96) ?_
                        refine TQ.shut rfl rfl rfl rfl ?_
                        refine TQ.shut rfl rfl rfl rfl ?_
                        refine TQ.shut rfl rfl rfl rfl ?_
                        refine TQ.shut rfl rfl rfl rfl ?_
                        refine TQ.shut rfl rfl rfl rfl ?_
                        refine TQ.shut rfl rfl rfl rfl ?_
                        refine TQ.pickF rfl rfl rfl rfl rfl ?_
                        refine TQ.move rfl rfl rfl rfl ?_
                        refine TQ.shut rfl rfl rfl rfl ?_
                        refine TQ.shut rfl rfl rfl rfl ?_
                        refine TQ.tail [18, 19, 20, 21] rfl rfl ?_
                        refine TO.shut rfl rfl rfl rfl ?_
                        refine TO.shut rfl rfl rfl rfl ?_
                        refine TO.shut rfl rfl rfl rfl ?_
                        refine TO.pickF rfl rfl rfl rfl rfl ?_
                        refine TO.done ?_
                        exact X.metE1 false H (AllF.cons rfl (AllF.cons rfl (AllF.cons rfl (AllF.cons rfl (AllF.cons rfl (AllF.cons rfl (AllF.cons rfl (AllF.cons rfl (AllF.cons rfl (AllF.cons rfl (AllF.cons rfl (AllF.cons rfl (AllF.cons rfl AllF.nil))))))))))))) (Pick.cons (Take.head _ _) (Pick.cons (Take.head _ _) (Pick.cons (Take.head _ _) (Pick.cons (Take.head _ _) (Pick.cons (Take.head _ _) (Pick.cons (Take.head _ _) Pick.nil))))))
                    · rintro x100 H
                      unfold m_acequialaw04_greatest_j6 at H
                      rcases ite_some H with ⟨g101, H⟩ | ⟨g101, H⟩
                      ·
                        refine T.condT rfl g101 ?_
                        refine T.seq ?_
                        obtain ⟨g102, H⟩ := gd_some H
                        obtain ⟨g103, H⟩ := gd_some H
                        apply T.drawL [⟨[], false, [], relV _⟩, ⟨[], false, [], relV _⟩, ⟨[1], false, [], relV _⟩, ⟨[], false, [], relV _⟩, ⟨[], false, [], relV _⟩, ⟨[4], false, [], relV _⟩, ⟨[], false, [], relV _⟩, ⟨[6], false, [], relV _⟩, ⟨[0, 2], false, [], relV _⟩, ⟨[0, 2, 8], true, [], relN⟩] [112, 113, 114, 115, 116, 117, 118, 119, 120] 10 (HRk [[(some b22, .cells (arr boolC xs83 ([])).toArray 4 (0, 0))], [(some b22, .cells (arr boolC (xs83.set ((n0.Arcs.getD x57.toNat default).fr).toNat true) ([])).toArray 4 (0, 0))]]) [[], []] [(some b22, .cells (arr boolC xs83 ([])).toArray 4 (0, 0))] [(some b1, .cells #[.int .i64 n0.N, .int .i64 n0.S, .int .i64 n0.T, .slice n0_Arcs_b n0_Arcs_n n0_Arcs_c] 24 (0, 0)), (ob9, .cells (arr (intC .i64) f6 j10).toArray 2 (0, 0)), (some b19, .cells (arr hopC xs81 ([])).toArray 60 (0, 0)), (ob88, .cells (arr (intC .i64) row85 j89).toArray 3 (0, 0)), (some b60, .cells #[.int .i64 ((n0.Arcs.getD x57.toNat default).fr), .int .i64 ((n0.Arcs.getD x57.toNat default).to), .int .i64 ((n0.Arcs.getD x57.toNat default).cap)] 28 (0, 0))]
                        · exact mixed
                        · exact rfl
                        · kernel_rfl
                        · kernel_rfl
                        · kernel_rfl
                        · exact rfl
                        · exact rfl
                        · exact rfl
                        · exact rfl
                        · exact (by repeat (first | exact Pick.refl _ | exact Pick.nil | apply Pick.none | refine Pick.cons (by repeat (first | exact Take.head _ _ | apply Take.tail)) ?_))
                        · refine ⟨?_, ?_, ?_, ?_, ?_, ?_, ?_, ?_, ?_, ?_, trivial⟩
                          · rintro vs es Es Hx -
                            refine TO.reenv (D := []) rfl ?_
                            refine TO.move rfl rfl rfl rfl ?_
                            refine TO.done ?_; exact X.obQ rfl ⟨rfl, rfl⟩ (Pick.refl _) rfl
                          · rintro vs es Es Hx -
                            refine TO.reenv (D := []) rfl ?_
                            refine TO.fieldAddr0 rfl rfl rfl rfl TWLCutGreatest.f28_0 ?_
                            refine TO.done ?_; exact X.obQ rfl ⟨rfl, rfl⟩ (Pick.refl _) rfl
                          · rintro vs es Es Hx ⟨⟨h_1, e_1⟩, -⟩
                            refine TO.reenv (D := [(113, vs 1)]) rfl ?_; rw [h_1]
                            refine TO.load1 rfl rfl rfl rfl TWLCutGreatest.s3 (List.Mem.tail _ (List.Mem.tail _ (List.Mem.tail _ (List.Mem.tail _ (List.Mem.head _))))) rfl ?_
                            refine TO.done ?_; exact X.obQ rfl ⟨rfl, rfl⟩ (Pick.refl _) (by show [(113, vs 1)] = _; rw [h_1])
                          · rintro vs es Es Hx -
                            refine TO.reenv (D := []) rfl ?_
                            refine TO.move rfl rfl rfl rfl ?_
                            refine TO.done ?_; exact X.obQ rfl ⟨rfl, rfl⟩ (Pick.refl _) rfl
                          · rintro vs es Es Hx -
                            refine TO.reenv (D := []) rfl ?_
                            refine TO.fieldAddr0 rfl rfl rfl rfl TWLCutGreatest.f28_0 ?_
                            refine TO.done ?_; exact X.obQ rfl ⟨rfl, rfl⟩ (Pick.refl _) rfl
                          · rintro vs es Es Hx ⟨⟨h_4, e_4⟩, -⟩
                            refine TO.reenv (D := [(116, vs 4)]) rfl ?_; rw [h_4]
                            refine TO.load1 rfl rfl rfl rfl TWLCutGreatest.s3 (List.Mem.tail _ (List.Mem.tail _ (List.Mem.tail _ (List.Mem.tail _ (List.Mem.head _))))) rfl ?_
                            refine TO.done ?_; exact X.obQ rfl ⟨rfl, rfl⟩ (Pick.refl _) (by show [(116, vs 4)] = _; rw [h_4])
                          · rintro vs es Es Hx -
                            refine TO.reenv (D := []) rfl ?_
                            refine TO.move rfl rfl rfl rfl ?_
                            refine TO.done ?_; exact X.obQ rfl ⟨rfl, rfl⟩ (Pick.refl _) rfl
                          · rintro vs es Es Hx ⟨⟨h_6, e_6⟩, -⟩
                            refine TO.reenv (D := [(118, vs 6)]) rfl ?_; rw [h_6]
                            refine TO.buildS (t := 60) [.int .i64 0, .bool false] [0, 1] rfl rfl rfl rfl (by simp only [setAll, setCells, Value.cells, List.toList_toArray, List.getD_cons_zero, List.getD_cons_succ, List.set_cons_zero, List.set_cons_succ]; rfl) (by kernel_rfl) ?_
                            refine TO.done ?_; exact X.obQ rfl ⟨rfl, rfl⟩ (Pick.refl _) (by show [(118, vs 6)] = _; rw [h_6])
                          · rintro vs es Es Hx ⟨⟨h_0, e_0⟩, ⟨h_2, e_2⟩, -⟩
                            refine TO.reenv (D := [(112, vs 0), (114, vs 2)]) rfl ?_; rw [h_0, h_2]
                            refine TO.ix1 hn84 g102 rfl rfl rfl rfl rfl TWLCutGreatest.l31 TWLCutGreatest.n4 ?_
                            refine TO.done ?_; exact X.obQ rfl ⟨rfl, rfl⟩ (Pick.refl _) (by show [(112, vs 0), (114, vs 2)] = _; rw [h_0, h_2])
                          · rintro vs es Es Hx hb ⟨⟨h_0, e_0⟩, ⟨h_2, e_2⟩, ⟨h_8, e_8⟩, -⟩ hHR
                            obtain rfl : hb = [(some b22, .cells (arr boolC xs83 ([])).toArray 4 (0, 0))] := hHR
                            refine TO.reenv (D := [(112, vs 0), (114, vs 2), (120, vs 8)]) rfl ?_; rw [h_0, h_2, h_8]
                            refine TO.stBO g102 rfl rfl rfl rfl (Take.head _ _) TWLCutGreatest.n4 ?_
                            refine TO.done ?_; exact X.obE (hb' := [(some b22, .cells (arr boolC (xs83.set ((n0.Arcs.getD x57.toNat default).fr).toNat true) ([])).toArray 4 (0, 0))]) rfl rfl rfl (by repeat (first | exact Pick.refl _ | exact Pick.nil | apply Pick.none | refine Pick.cons (by repeat (first | exact Take.head _ _ | apply Take.tail)) ?_)) (by show [(112, vs 0), (114, vs 2), (120, vs 8)] = _; rw [h_0, h_2, h_8])
                        · rintro vs es hb ⟨⟨h_0, e_0⟩, ⟨h_1, e_1⟩, ⟨h_2, e_2⟩, ⟨h_3, e_3⟩, ⟨h_4, e_4⟩, ⟨h_5, e_5⟩, ⟨h_6, e_6⟩, ⟨h_7, e_7⟩, ⟨h_8, e_8⟩, e_9, -⟩ hHR
                          obtain rfl : hb = [(some b22, .cells (arr boolC (xs83.set ((n0.Arcs.getD x57.toNat default).fr).toNat true) ([])).toArray 4 (0, 0))] := hHR
                          refine TO.reenv (D := [(112, vs 0), (113, vs 1), (114, vs 2), (115, vs 3), (116, vs 4), (117, vs 5), (118, vs 6), (119, vs 7), (120, vs 8)]) rfl ?_
                          refine TO.reheap (H := [(some b22, .cells (arr boolC (xs83.set ((n0.Arcs.getD x57.toNat default).fr).toNat true) ([])).toArray 4 (0, 0)), (some b1, .cells #[.int .i64 n0.N, .int .i64 n0.S, .int .i64 n0.T, .slice n0_Arcs_b n0_Arcs_n n0_Arcs_c] 24 (0, 0)), (ob9, .cells (arr (intC .i64) f6 j10).toArray 2 (0, 0)), (some b19, .cells (arr hopC xs81 ([])).toArray 60 (0, 0)), (ob88, .cells (arr (intC .i64) row85 j89).toArray 3 (0, 0)), (some b60, .cells #[.int .i64 ((n0.Arcs.getD x57.toNat default).fr), .int .i64 ((n0.Arcs.getD x57.toNat default).to), .int .i64 ((n0.Arcs.getD x57.toNat default).cap)] 28 (0, 0))]) (by show _ ++ (_ ++ (es 0 ++ (es 1 ++ (es 2 ++ (es 3 ++ (es 4 ++ (es 5 ++ (es 6 ++ (es 7 ++ (es 8 ++ (es 9 ++ ([])))))))))))) = _; rw [e_0, e_1, e_2, e_3, e_4, e_5, e_6, e_7, e_8, e_9]; rfl) ?_
                          rw [h_0, h_1, h_2, h_3, h_4, h_5, h_6, h_7, h_8]
                          clear h_8 h_7 h_6 h_5 h_4 h_3 h_2 h_1 h_0 e_0 e_1 e_2 e_3 e_4 e_5 e_6 e_7 e_8 e_9
                          refine TO.ix0 hn82 g103 rfl rfl rfl rfl rfl TWLCutGreatest.l54 TWLCutGreatest.n60 ?_
                          refine TO.stSO (v := (Hop.mk x57 true)) (f := hopC) (cs := [.int .i64 x57, .bool true]) (fun _ => rfl) (fun _ => rfl) g103 rfl rfl rfl rfl rfl (Take.tail (Take.tail (Take.tail (Take.head _ _)))) TWLCutGreatest.n60 ?_
                          refine TO.done ?_
                          refine X.seq_normal ?_
                          refine T.trim (AllF.cons (t := 1) rfl (AllF.cons (t := 4) rfl (AllF.cons (t := 5) rfl (AllF.cons (t := 6) rfl (AllF.cons (t := 7) rfl (AllF.cons (t := 8) rfl (AllF.cons (t := 10) rfl (AllF.cons (t := 22) rfl (AllF.cons (t := 44) rfl (AllF.cons (t := 45) rfl (AllF.cons (t := 46) rfl AllF.nil))))))))))) ?_
                          obtain ⟨g106, H⟩ := gd_some H
                          refine T.regionL (ll := [0, 1, 2, 3, 4, 5]) rfl ?_
                          refine TO.move rfl rfl rfl rfl ?_
                          refine TO.fieldAddr0 rfl rfl rfl rfl TWLCutGreatest.f28_0 ?_
                          refine TO.load1 rfl rfl rfl rfl TWLCutGreatest.s3 (List.Mem.tail _ (List.Mem.tail _ (List.Mem.tail _ (List.Mem.tail _ (List.Mem.tail _ (List.Mem.head _)))))) rfl ?_
                          refine TO.buildSliceS [.int .i64 0] [0] rfl rfl rfl rfl TWLCutGreatest.l30 TWLCutGreatest.n3 TWLCutGreatest.z3 rfl rfl (by simp only [setAll, setCells, Value.cells, List.toList_toArray, List.getD_cons_zero, List.getD_cons_succ, List.set_cons_zero, List.set_cons_succ]; rfl) (by kernel_rfl) ?_; intro b104
                          refine TO.app (f := (intC .i64)) (s := 1) (xs := row85) (ob := ob88) (j := j89) (ys := [(n0.Arcs.getD x57.toNat default).fr]) (fun _ => rfl) (fun _ => rfl) TWLCutGreatestel30 g106 rfl rfl rfl rfl rfl (Take.tail (Take.tail (Take.tail (Take.tail (Take.tail (Take.head _ _)))))) hn90 hc91 hj92 hz93 (fun wc hwc => (hwc.rs (f := (intC .i64)) (s := 1) (xs := [(n0.Arcs.getD x57.toNat default).fr]) (j := ([])) (fun _ => rfl) (List.Mem.head _) rfl (Nat.le_refl _) someZ)) ?_; intro ob107 c108 j109 hc110 hj111 hz112
                          refine TO.assign rfl rfl rfl rfl ?_
                          refine TO.done ?_
                          refine X.block_normal ?_
                          refine X.seq_normal ?_
                          obtain ⟨g114, H⟩ := gd_some H
                          refine T.regionL (ll := [0, 1]) rfl ?_
                          refine TO.addG g114 rfl rfl rfl rfl rfl ?_
                          refine TO.move rfl rfl rfl rfl ?_
                          refine TO.done ?_
                          have H := loop_next H C_3
                          exact X.againE9 n_3 (xs81.set ((n0.Arcs.getD x57.toNat default).fr).toNat (Hop.mk x57 true)) (xs83.set ((n0.Arcs.getD x57.toNat default).fr).toNat true) (row85 ++ ([(n0.Arcs.getD x57.toNat default).fr])) (n86 + 1) c108 ob107 j109 (x57 + 1) ⟨H, (List.length_set.trans hn82), (List.length_set.trans hn84), (lenApp hn90 rfl), hc110, hj111, hz112⟩ (Nat.lt_succ_self _) (AllF.cons rfl (AllF.cons rfl (AllF.cons rfl (AllF.cons rfl (AllF.cons rfl (AllF.cons rfl (AllF.cons rfl (AllF.cons rfl (AllF.cons rfl (AllF.cons rfl AllF.nil)))))))))) (Pick.cons (Take.tail (Take.tail (Take.tail (Take.tail (Take.head _ _))))) (Pick.cons (Take.tail (Take.tail (Take.tail (Take.tail (Take.head _ _))))) (Pick.cons (Take.tail (Take.tail (Take.head _ _))) (Pick.cons (Take.tail (Take.tail (Take.head _ _))) (Pick.cons (Take.head _ _) Pick.nil)))))
                      ·
                        refine T.condF rfl (Bool.eq_false_iff.2 g101) ?_
                        refine T.skip ?_
                        refine X.block_normal ?_
                        refine X.seq_normal ?_
                        obtain ⟨g115, H⟩ := gd_some H
                        refine T.regionL (ll := [0, 1]) rfl ?_
                        refine TO.addG g115 rfl rfl rfl rfl rfl ?_
                        refine TO.move rfl rfl rfl rfl ?_
                        refine TO.done ?_
                        have H := loop_next H C_3
                        exact X.againE9 n_3 xs81 xs83 row85 n86 c87 ob88 j89 (x57 + 1) ⟨H, hn82, hn84, hn90, hc91, hj92, hz93⟩ (Nat.lt_succ_self _) (AllF.cons rfl (AllF.cons rfl (AllF.cons rfl (AllF.cons rfl (AllF.cons rfl (AllF.cons rfl (AllF.cons rfl (AllF.cons rfl (AllF.cons rfl (AllF.cons rfl AllF.nil)))))))))) (Pick.cons (Take.head _ _) (Pick.cons (Take.head _ _) (Pick.cons (Take.head _ _) (Pick.cons (Take.head _ _) (Pick.cons (Take.head _ _) Pick.nil)))))
              ·
                refine T.condPF rfl g58 ?_
                refine T.exit ?_
                refine X.then_exit ?_
                have H := loop_exitE H C_3 ▸ K_3
                refine X.then_exit ?_
                refine X.block_here ?_
                refine X.block_normal ?_
                exact X.metE7 xs43 xs45 row47 n48 c49 ob50 j51 ⟨H, hn44, hn46, hn52, hc53, hj54, hz55⟩ (AllF.cons rfl (AllF.cons rfl (AllF.cons rfl (AllF.cons rfl (AllF.cons rfl (AllF.cons rfl (AllF.cons rfl AllF.nil))))))) (Pick.cons (Take.head _ _) (Pick.cons (Take.head _ _) (Pick.cons (Take.head _ _) (Pick.cons (Take.head _ _) (Pick.cons (Take.head _ _) Pick.nil)))))
            · rintro xs116 xs118 row120 n121 c122 ob123 j124 ⟨H, hn117, hn119, hn125, hc126, hj127, hz128⟩
              unfold m_acequialaw04_greatest_j7 at H
              obtain ⟨g130, H⟩ := gd_some H
              refine T.regionL (ll := [0, 1, 2]) rfl ?_
              refine TO.move rfl rfl rfl rfl ?_
              refine TO.addG g130 rfl rfl rfl rfl rfl ?_
              refine TO.assign rfl rfl rfl rfl ?_
              refine TO.done ?_
              have H := loop_next H C_2
              exact X.againE9 n_2 xs116 xs118 row120 n121 c122 ob123 j124 (i41 + 1) ⟨H, hn117, hn119, hn125, hc126, hj127, hz128⟩ (Nat.lt_succ_self _) (AllF.cons rfl (AllF.cons rfl (AllF.cons rfl (AllF.cons rfl (AllF.cons rfl (AllF.cons rfl (AllF.cons rfl AllF.nil))))))) (Pick.cons (Take.head _ _) (Pick.cons (Take.head _ _) (Pick.cons (Take.head _ _) (Pick.cons (Take.head _ _) (Pick.cons (Take.head _ _) Pick.nil)))))
          ·
            refine T.condPF rfl g42 ?_
            refine T.exit ?_
            refine X.then_exit ?_
            have H := loop_exitE H C_2 ▸ K_2
            refine X.then_exit ?_
            refine X.block_here ?_
            exact X.metE2 xs27 xs29 ⟨H, hn28, hn30⟩ (AllF.cons rfl (AllF.cons rfl (AllF.cons rfl (AllF.cons rfl (AllF.cons rfl AllF.nil))))) (Pick.cons (Take.head _ _) (Pick.cons (Take.head _ _) (Pick.cons (Take.head _ _) (Pick.cons (Take.head _ _) Pick.nil))))
        · rintro xs131 xs133 ⟨H, hn132, hn134⟩
          unfold m_acequialaw04_greatest_j8 at H
          refine T.seq ?_
          refine T.seq ?_
          obtain ⟨g135, H⟩ := gd_some H
          refine T.regionL (ll := [0, 1, 2, 3, 4, 5]) rfl ?_
          refine TO.move rfl rfl rfl rfl ?_
          refine TO.fieldAddr0 rfl rfl rfl rfl TWLCutGreatest.f24_2 ?_
          refine TO.load1 rfl rfl rfl rfl TWLCutGreatest.s3 (List.Mem.head _) rfl ?_
          refine TO.ix1 hn134 g135 rfl rfl rfl rfl rfl TWLCutGreatest.l31 TWLCutGreatest.n4 ?_
          refine TO.ldBO g135 rfl rfl rfl rfl TWLCutGreatest.s4 (List.Mem.tail _ (List.Mem.tail _ (List.Mem.tail _ (List.Mem.head _)))) ?_
          refine TO.not rfl rfl rfl rfl ?_
          refine TO.done ?_
          refine X.seq_normal ?_
          rcases ite_some H with ⟨g136, H⟩ | ⟨g136, H⟩
          ·
            refine T.condT rfl g136 ?_
            refine T.seq ?_
            refine T.regionL (ll := [0, 1, 2]) rfl ?_
            refine TO.move rfl rfl rfl rfl ?_
            refine TO.assign rfl rfl rfl rfl ?_
            refine TO.assign rfl rfl rfl rfl ?_
            refine TO.done ?_
            refine X.seq_normal ?_
            refine T.trim (AllF.cons (t := 2) rfl (AllF.cons (t := 3) rfl AllF.nil)) ?_
            refine T.ret ?_
            refine X.then_ret ?_
            refine X.block_ret ?_
            refine X.then_ret ?_
            have H := loop_exitE H C_1 ▸ K_1
            refine X.then_ret ?_
            refine X.block_ret ?_
            refine X.then_ret ?_
            obtain ⟨rfl, rfl⟩ := ret2 H
            exact X.ret2 rfl rfl rfl rfl (Res.tmp rfl) (Res.tmp rfl) (Pick.cons (Take.tail (Take.head _ _)) Pick.nil) ⟨ob9, n7, c8, j10, rfl, rfl, hn11, hc12, hj13, hz14⟩
          ·
            refine T.condF rfl (Bool.eq_false_iff.2 g136) ?_
            refine T.skip ?_
            refine X.seq_normal ?_
            refine T.seq ?_
            refine T.regionL (ll := [0]) rfl ?_
            refine TO.assign rfl rfl rfl rfl ?_
            refine TO.done ?_
            refine X.seq_normal ?_
            refine T.seq ?_
            refine T.seq ?_
            refine T.regionL (ll := [0, 1, 2]) rfl ?_
            refine TO.fieldAddr0 rfl rfl rfl rfl TWLCutGreatest.f24_2 ?_
            refine TO.load1 rfl rfl rfl rfl TWLCutGreatest.s3 (List.Mem.head _) rfl ?_
            refine TO.assign rfl rfl rfl rfl ?_
            refine TO.done ?_
            refine X.seq_normal ?_
            refine T.trim (AllF.cons (t := 1) rfl (AllF.cons (t := 4) rfl (AllF.cons (t := 5) rfl (AllF.cons (t := 22) rfl (AllF.cons (t := 11) rfl (AllF.cons (t := 12) rfl AllF.nil)))))) ?_
            refine T.meetSE5 (fun (way165 : List Hop) (n166 : Nat) (c167 : Nat) (ob168 : Option Nat) (j169 : List Value) => m_acequialaw04_greatest_j10 n0 f6 x16 way165 = some r_1 ∧ way165.length = n166 ∧ n166 ≤ c167 ∧ j169.length = (c167 - n166) * 2 ∧ (ob168 = none → c167 = 0)) (fun (way165 : List Hop) (n166 : Nat) (c167 : Nat) (ob168 : Option Nat) (j169 : List Value) => [(1, .pointer (some ⟨b1, 0, none⟩)), (4, .slice (sb ob9) n7 c8), (11, .slice (sb ob168) n166 c167), (22, .int .i64 x16)]) (fun (way165 : List Hop) (n166 : Nat) (c167 : Nat) (ob168 : Option Nat) (j169 : List Value) => [(some b1, .cells #[.int .i64 n0.N, .int .i64 n0.S, .int .i64 n0.T, .slice n0_Arcs_b n0_Arcs_n n0_Arcs_c] 24 (0, 0)), (ob9, .cells (arr (intC .i64) f6 j10).toArray 2 (0, 0)), (ob168, .cells (arr hopC way165 j169).toArray 60 (0, 0))]) ?_ ?_
            ·
              refine T.block ?_
              obtain ⟨o_9, e_9, K_9⟩ := bd_some H
              refine T.loopE7 (fun (m_9 : Nat) (way137 : List Hop) (n138 : Nat) (c139 : Nat) (ob140 : Option Nat) (j141 : List Value) (v147 : Int) => loopM (fun s => m_acequialaw04_greatest_s9 n0 xs131 s.1 s.2) m_9 (way137, v147) = some o_9 ∧ way137.length = n138 ∧ n138 ≤ c139 ∧ j141.length = (c139 - n138) * 2 ∧ (ob140 = none → c139 = 0)) (fun (m_9 : Nat) (way137 : List Hop) (n138 : Nat) (c139 : Nat) (ob140 : Option Nat) (j141 : List Value) (v147 : Int) => [(1, .pointer (some ⟨b1, 0, none⟩)), (4, .slice (sb ob9) n7 c8), (5, .slice (some ⟨b19, 0, none⟩) n0.N.toNat n0.N.toNat), (11, .slice (sb ob140) n138 c139), (12, .int .i64 v147), (22, .int .i64 x16)]) (fun (m_9 : Nat) (way137 : List Hop) (n138 : Nat) (c139 : Nat) (ob140 : Option Nat) (j141 : List Value) (v147 : Int) => [(some b1, .cells #[.int .i64 n0.N, .int .i64 n0.S, .int .i64 n0.T, .slice n0_Arcs_b n0_Arcs_n n0_Arcs_c] 24 (0, 0)), (ob9, .cells (arr (intC .i64) f6 j10).toArray 2 (0, 0)), (some b19, .cells (arr hopC xs131 ([])).toArray 60 (0, 0)), (ob140, .cells (arr hopC way137 j141).toArray 60 (0, 0))]) (fun (m_9 : Nat) (way137 : List Hop) (n138 : Nat) (c139 : Nat) (ob140 : Option Nat) (j141 : List Value) (v147 : Int) => m_9) FUEL ([]) 0 0 none ([]) n0.T ⟨e_9, rfl, (Nat.le_refl _), (zeroJ 0 _), (fun _ => rfl)⟩ (AllF.cons rfl (AllF.cons rfl (AllF.cons rfl (AllF.cons rfl (AllF.cons rfl (AllF.cons rfl AllF.nil)))))) (Pick.cons (Take.head _ _) (Pick.cons (Take.head _ _) (Pick.cons (Take.head _ _) (Pick.none Pick.nil)))) ?_
              rintro m_9 way137 n138 c139 ob140 j141 v147 ⟨H, hn142, hc143, hj144, hz145⟩
              obtain ⟨n_9, r_9, rfl, H, C_9⟩ := loopM_some H
              have H : m_acequialaw04_greatest_s9 n0 xs131 way137 v147 = some r_9 := H
              unfold m_acequialaw04_greatest_s9 at H
              refine T.seq ?_
              refine T.seq ?_
              refine T.regionL (ll := [0, 1, 2, 3]) rfl ?_
              refine TO.move rfl rfl rfl rfl ?_
              refine TO.fieldAddr0 rfl rfl rfl rfl TWLCutGreatest.f24_1 ?_
              refine TO.load1 rfl rfl rfl rfl TWLCutGreatest.s3 (List.Mem.head _) rfl ?_
              refine TO.bin rfl rfl rfl rfl rfl rfl ?_
              refine TO.done ?_
              refine X.seq_normal ?_
              rcases ite_some H with ⟨g148, H⟩ | ⟨g148, H⟩
              ·
                refine T.condPT rfl g148 ?_
                refine T.skip ?_
                refine X.seq_normal ?_
                refine T.block ?_
                refine T.seq ?_
                obtain ⟨g149, H⟩ := gd_some H
                refine T.regionL (ll := [0, 1, 2, 3, 4, 5]) rfl ?_
                refine TO.move rfl rfl rfl rfl ?_
                refine TO.move rfl rfl rfl rfl ?_
                refine TO.ix0 hn132 g149 rfl rfl rfl rfl rfl TWLCutGreatest.l54 TWLCutGreatest.n60 ?_
                refine TO.ldSO (f := hopC) (cs := [.int .i64 ((xs131.getD v147.toNat default).Arc), .bool ((xs131.getD v147.toNat default).Back)]) default (fun _ => rfl) g149 rfl rfl rfl rfl rfl TWLCutGreatest.a60 (List.Mem.tail _ (List.Mem.tail _ (List.Mem.head _))) ?_
                refine TO.allocA rfl rfl rfl TWLCutGreatest.z60 ?_; intro b150
                refine TO.storeA rfl rfl rfl rfl (Take.head _ _) TWLCutGreatest.n60 rfl rfl rfl ?_
                refine TO.done ?_
                refine X.seq_normal ?_
                refine T.trim (AllF.cons (t := 1) rfl (AllF.cons (t := 4) rfl (AllF.cons (t := 5) rfl (AllF.cons (t := 11) rfl (AllF.cons (t := 22) rfl (AllF.cons (t := 13) rfl AllF.nil)))))) ?_
                refine T.seq ?_
                obtain ⟨g154, H⟩ := gd_some H
                refine T.regionL (ll := [0, 1, 2, 3, 4]) rfl ?_
                refine TO.loadA rfl rfl rfl rfl TWLCutGreatest.a60 (List.Mem.head _) rfl ?_
                refine TO.buildSliceS [.int .i64 0, .bool false] [0] rfl rfl rfl rfl TWLCutGreatest.l54 TWLCutGreatest.n60 TWLCutGreatest.z60 rfl rfl (by simp only [setAll, setCells, Value.cells, List.toList_toArray, List.getD_cons_zero, List.getD_cons_succ, List.set_cons_zero, List.set_cons_succ]; rfl) (by kernel_rfl) ?_; intro b152
                refine TO.move rfl rfl rfl rfl ?_
                refine TO.app (f := hopC) (s := 2) (xs := [(xs131.getD v147.toNat default)]) (ob := some b152) (j := ([])) (ys := way137) (fun _ => rfl) (fun _ => rfl) TWLCutGreatestel54 g154 rfl rfl rfl rfl rfl (Take.head _ _) rfl (Nat.le_refl _) (zeroJ _ _) someZ (fun wc hwc => (hwc.rs (f := hopC) (s := 2) (xs := way137) (j := j141) (fun _ => rfl) (List.Mem.tail _ (List.Mem.tail _ (List.Mem.tail _ (List.Mem.tail _ (List.Mem.tail _ (List.Mem.head _)))))) hn142 hc143 hz145)) ?_; intro ob155 c156 j157 hc158 hj159 hz160
                refine TO.assign rfl rfl rfl rfl ?_
                refine TO.done ?_
                refine X.seq_normal ?_
                refine T.seq ?_
                obtain ⟨g162, H⟩ := gd_some H
                refine T.regionL (ll := [0, 1, 2, 3, 4, 5, 6, 7]) rfl ?_
                refine TO.fieldAddr0 rfl rfl rfl rfl TWLCutGreatest.f24_3 ?_
                refine TO.load1 rfl rfl rfl rfl TWLCutGreatest.s22 (List.Mem.tail _ (List.Mem.tail _ (List.Mem.head _))) rfl ?_
                refine TO.fieldAddr0 rfl rfl rfl rfl TWLCutGreatest.f60_0 ?_
                refine TO.load1 rfl rfl rfl rfl TWLCutGreatest.s3 (List.Mem.tail _ (List.Mem.head _)) rfl ?_
                refine TO.ixR h_n0_Arcs g162 rfl rfl rfl rfl rfl TWLCutGreatest.l22 TWLCutGreatest.n28 ?_
                refine TO.faR rfl rfl rfl rfl TWLCutGreatest.f28_0 ?_
                refine TO.ldFR (v := .int .i64 ((n0.Arcs.getD ((xs131.getD v147.toNat default).Arc).toNat default).fr)) default h_n0_Arcs g162 rfl rfl rfl rfl rfl TWLCutGreatest.s3 ?_
                refine TO.assign rfl rfl rfl rfl ?_
                refine TO.done ?_
                refine X.seq_normal ?_
                refine T.trim (AllF.cons (t := 1) rfl (AllF.cons (t := 4) rfl (AllF.cons (t := 5) rfl (AllF.cons (t := 11) rfl (AllF.cons (t := 22) rfl (AllF.cons (t := 13) rfl (AllF.cons (t := 12) rfl AllF.nil))))))) ?_
                refine T.seq ?_
                refine T.regionL (ll := [0, 1]) rfl ?_
                refine TO.fieldAddr0 rfl rfl rfl rfl TWLCutGreatest.f60_1 ?_
                refine TO.load1 rfl rfl rfl rfl TWLCutGreatest.s4 (List.Mem.tail _ (List.Mem.head _)) rfl ?_
                refine TO.done ?_
                refine X.seq_normal ?_
                rcases ite_some H with ⟨g163, H⟩ | ⟨g163, H⟩
                ·
                  refine T.condT rfl g163 ?_
                  obtain ⟨g164, H⟩ := gd_some H
                  refine T.regionL (ll := [0, 1, 2, 3, 4, 5, 6, 7]) rfl ?_
                  refine TO.fieldAddr0 rfl rfl rfl rfl TWLCutGreatest.f24_3 ?_
                  refine TO.load1 rfl rfl rfl rfl TWLCutGreatest.s22 (List.Mem.tail _ (List.Mem.tail _ (List.Mem.head _))) rfl ?_
                  refine TO.fieldAddr0 rfl rfl rfl rfl TWLCutGreatest.f60_0 ?_
                  refine TO.load1 rfl rfl rfl rfl TWLCutGreatest.s3 (List.Mem.tail _ (List.Mem.head _)) rfl ?_
                  refine TO.ixR h_n0_Arcs g164 rfl rfl rfl rfl rfl TWLCutGreatest.l22 TWLCutGreatest.n28 ?_
                  refine TO.faR rfl rfl rfl rfl TWLCutGreatest.f28_1 ?_
                  refine TO.ldFR (v := .int .i64 ((n0.Arcs.getD ((xs131.getD v147.toNat default).Arc).toNat default).to)) default h_n0_Arcs g164 rfl rfl rfl rfl rfl TWLCutGreatest.s3 ?_
                  refine TO.assign rfl rfl rfl rfl ?_
                  refine TO.done ?_
                  refine X.block_normal ?_
                  have H := loop_next H C_9
                  exact X.againE7 n_9 (([(xs131.getD v147.toNat default)]) ++ way137) (1 + n138) c156 ob155 j157 ((n0.Arcs.getD ((xs131.getD v147.toNat default).Arc).toNat default).to) ⟨H, (lenApp rfl hn142), hc158, hj159, hz160⟩ (Nat.lt_succ_self _) (AllF.cons rfl (AllF.cons rfl (AllF.cons rfl (AllF.cons rfl (AllF.cons rfl (AllF.cons rfl AllF.nil)))))) (Pick.cons (Take.tail (Take.tail (Take.head _ _))) (Pick.cons (Take.tail (Take.tail (Take.head _ _))) (Pick.cons (Take.tail (Take.tail (Take.head _ _))) (Pick.cons (Take.head _ _) Pick.nil))))
                ·
                  refine T.condF rfl (Bool.eq_false_iff.2 g163) ?_
                  refine T.skip ?_
                  refine X.block_normal ?_
                  have H := loop_next H C_9
                  exact X.againE7 n_9 (([(xs131.getD v147.toNat default)]) ++ way137) (1 + n138) c156 ob155 j157 ((n0.Arcs.getD ((xs131.getD v147.toNat default).Arc).toNat default).fr) ⟨H, (lenApp rfl hn142), hc158, hj159, hz160⟩ (Nat.lt_succ_self _) (AllF.cons rfl (AllF.cons rfl (AllF.cons rfl (AllF.cons rfl (AllF.cons rfl (AllF.cons rfl AllF.nil)))))) (Pick.cons (Take.tail (Take.tail (Take.head _ _))) (Pick.cons (Take.tail (Take.tail (Take.head _ _))) (Pick.cons (Take.tail (Take.tail (Take.head _ _))) (Pick.cons (Take.head _ _) Pick.nil))))
              ·
                refine T.condPF rfl g148 ?_
                refine T.exit ?_
                refine X.then_exit ?_
                have H := loop_exitE H C_9 ▸ K_9
                refine X.then_exit ?_
                refine X.block_here ?_
                exact X.metE5 way137 n138 c139 ob140 j141 ⟨H, hn142, hc143, hj144, hz145⟩ (AllF.cons rfl (AllF.cons rfl (AllF.cons rfl (AllF.cons rfl AllF.nil)))) (Pick.cons (Take.head _ _) (Pick.cons (Take.head _ _) (Pick.cons (Take.tail (Take.head _ _)) Pick.nil)))
            · rintro way165 n166 c167 ob168 j169 ⟨H, hn170, hc171, hj172, hz173⟩
              unfold m_acequialaw04_greatest_j10 at H
              refine T.seq ?_
              obtain ⟨⟨r175, r176⟩, e177, H⟩ := bd_some H
              refine T.regionL (ll := [0, 1, 2, 3, 4, 5, 6, 7, 8]) rfl ?_
              refine TO.loadA rfl rfl rfl rfl TWLCutGreatest.a24 (List.Mem.head _) rfl ?_
              refine TO.move rfl rfl rfl rfl ?_
              refine TO.move rfl rfl rfl rfl ?_
              refine TO.callX TWLCutGreatest.c34 rfl rfl rfl rfl (fun wc hwc => w_flow_Room (n0 := n0) (f1 := f6) (l2 := way165) wc (h_n0_Arcs.mono hwc) (hwc.rs (f := (intC .i64)) (s := 1) (xs := f6) (j := j10) (fun _ => rfl) (List.Mem.tail _ (List.Mem.head _)) hn11 hc12 hz14) (hwc.rs (f := hopC) (s := 2) (xs := way165) (j := j169) (fun _ => rfl) (List.Mem.tail _ (List.Mem.tail _ (List.Mem.head _))) hn170 hc171 hz173) e177) ?_
              rintro _ _ ⟨rfl, rfl⟩
              refine TO.move rfl rfl rfl rfl ?_
              refine TO.extract rfl rfl rfl rfl rfl ?_
              refine TO.extract rfl rfl rfl rfl rfl ?_
              refine TO.assign rfl rfl rfl rfl ?_
              refine TO.assign rfl rfl rfl rfl ?_
              refine TO.done ?_
              refine X.seq_normal ?_
              refine T.seq ?_
              obtain ⟨⟨r178, r179⟩, e180, H⟩ := bd_some H
              refine T.regionL (ll := [0, 1, 2, 3, 4, 5, 6, 7, 8, 9]) rfl ?_
              refine TO.loadA rfl rfl rfl rfl TWLCutGreatest.a24 (List.Mem.head _) rfl ?_
              refine TO.move rfl rfl rfl rfl ?_
              refine TO.move rfl rfl rfl rfl ?_
              refine TO.move rfl rfl rfl rfl ?_
              refine TO.callX TWLCutGreatest.c35 rfl rfl rfl rfl (fun wc hwc => w_flow_Send (n0 := n0) (f1 := f6) (l2 := way165) (d3 := r175) wc (h_n0_Arcs.mono hwc) (hwc.rs (f := (intC .i64)) (s := 1) (xs := f6) (j := j10) (fun _ => rfl) (List.Mem.tail _ (List.Mem.head _)) hn11 hc12 hz14) (hwc.rs (f := hopC) (s := 2) (xs := way165) (j := j169) (fun _ => rfl) (List.Mem.tail _ (List.Mem.tail _ (List.Mem.head _))) hn170 hc171 hz173) e180) ?_
              rintro _ _ ⟨ob181, n182, c183, j184, rfl, rfl, hn185, hc186, hj187, hz188⟩
              refine TO.move rfl rfl rfl rfl ?_
              refine TO.extract rfl rfl rfl rfl rfl ?_
              refine TO.extract rfl rfl rfl rfl rfl ?_
              refine TO.assign rfl rfl rfl rfl ?_
              refine TO.assign rfl rfl rfl rfl ?_
              refine TO.done ?_
              refine X.seq_normal ?_
              refine T.trim (AllF.cons (t := 1) rfl (AllF.cons (t := 4) rfl (AllF.cons (t := 22) rfl (AllF.cons (t := 14) rfl (AllF.cons (t := 15) rfl (AllF.cons (t := 16) rfl (AllF.cons (t := 17) rfl AllF.nil))))))) ?_
              refine T.seq ?_
              refine T.seq ?_
              refine T.meetSE1 (fun (x192 : Bool) => m_acequialaw04_greatest_j11 f6 x16 r178 x192 = some r_1) (fun (x192 : Bool) => [(1, .pointer (some ⟨b1, 0, none⟩)), (4, .slice (sb ob9) n7 c8), (16, .slice (sb ob181) n182 c183), (22, .int .i64 x16), (189, .bool x192)]) (fun (x192 : Bool) => [(some b1, .cells #[.int .i64 n0.N, .int .i64 n0.S, .int .i64 n0.T, .slice n0_Arcs_b n0_Arcs_n n0_Arcs_c] 24 (0, 0)), (ob9, .cells (arr (intC .i64) f6 j10).toArray 2 (0, 0)), (ob181, .cells (arr (intC .i64) r178 j184).toArray 2 (0, 0))]) ?_ ?_
              ·
                rcases ite_some H with ⟨g190, H⟩ | ⟨g190, H⟩
                ·
                  refine T.regionL (ll := [0, 1, 2, 3, 4, 5, 6, 7, 8, 9]) rfl ?_
                  refine TO.move rfl rfl rfl rfl ?_
                  refine TO.bin rfl rfl rfl rfl rfl rfl ?_
                  refine TO.move rfl rfl rfl rfl ?_
                  refine TO.decB (t := 182) (b' := true) rfl (decide_eq_true g190) ?_
                  refine TO.shut rfl rfl rfl rfl ?_
                  refine TO.shut rfl rfl rfl rfl ?_
                  refine TO.pickT rfl rfl rfl rfl rfl ?_
                  refine TO.move rfl rfl rfl rfl ?_
                  refine TO.shut rfl rfl rfl rfl ?_
                  refine TO.shut rfl rfl rfl rfl ?_
                  refine TO.pickT rfl rfl rfl rfl rfl ?_
                  refine TO.done ?_
                  exact X.metE1 true H (AllF.cons rfl (AllF.cons rfl (AllF.cons rfl (AllF.cons rfl (AllF.cons rfl AllF.nil))))) (Pick.cons (Take.tail (Take.head _ _)) (Pick.cons (Take.tail (Take.head _ _)) (Pick.cons (Take.head _ _) Pick.nil)))
                ·
                  rcases ite_some H with ⟨g191, H⟩ | ⟨g191, H⟩
                  ·
                    refine T.regionL (ll := [0, 1, 2, 3, 4, 5, 6, 7, 8, 9]) rfl ?_
                    refine TO.move rfl rfl rfl rfl ?_
                    refine TO.bin rfl rfl rfl rfl rfl rfl ?_
                    refine TO.move rfl rfl rfl rfl ?_
                    refine TO.decB (t := 182) (b' := false) rfl (decide_eq_false g190) ?_
                    refine TO.move rfl rfl rfl rfl ?_
                    refine TO.bin rfl rfl rfl rfl rfl rfl ?_
                    refine TO.pickF rfl rfl rfl rfl rfl ?_
                    refine TO.move rfl rfl rfl rfl ?_
                    refine TO.decB (t := 186) (b' := true) rfl (decide_eq_true g191) ?_
                    refine TO.shut rfl rfl rfl rfl ?_
                    refine TO.shut rfl rfl rfl rfl ?_
                    refine TO.pickT rfl rfl rfl rfl rfl ?_
                    refine TO.done ?_
                    exact X.metE1 true H (AllF.cons rfl (AllF.cons rfl (AllF.cons rfl (AllF.cons rfl (AllF.cons rfl AllF.nil))))) (Pick.cons (Take.tail (Take.head _ _)) (Pick.cons (Take.tail (Take.head _ _)) (Pick.cons (Take.head _ _) Pick.nil)))
                  ·
                    refine T.regionL (ll := [0, 1, 2, 3, 4, 5, 6, 7, 8, 9]) rfl ?_
                    refine TO.move rfl rfl rfl rfl ?_
                    refine TO.bin rfl rfl rfl rfl rfl rfl ?_
                    refine TO.move rfl rfl rfl rfl ?_
                    refine TO.decB (t := 182) (b' := false) rfl (decide_eq_false g190) ?_
                    refine TO.move rfl rfl rfl rfl ?_
                    refine TO.bin rfl rfl rfl rfl rfl rfl ?_
                    refine TO.pickF rfl rfl rfl rfl rfl ?_
                    refine TO.move rfl rfl rfl rfl ?_
                    refine TO.decB (t := 186) (b' := false) rfl (decide_eq_false g191) ?_
                    refine TO.move rfl rfl rfl rfl ?_
                    refine TO.bin rfl rfl rfl rfl rfl rfl ?_
                    refine TO.pickF rfl rfl rfl rfl rfl ?_
                    refine TO.done ?_
                    exact X.metE1 (decide (r175 < 1)) H (AllF.cons rfl (AllF.cons rfl (AllF.cons rfl (AllF.cons rfl (AllF.cons rfl AllF.nil))))) (Pick.cons (Take.tail (Take.head _ _)) (Pick.cons (Take.tail (Take.head _ _)) (Pick.cons (Take.head _ _) Pick.nil)))
              · rintro x192 H
                unfold m_acequialaw04_greatest_j11 at H
                rcases ite_some H with ⟨g193, H⟩ | ⟨g193, H⟩
                ·
                  refine T.condT rfl g193 ?_
                  refine T.seq ?_
                  refine T.regionL (ll := [0, 1, 2]) rfl ?_
                  refine TO.move rfl rfl rfl rfl ?_
                  refine TO.assign rfl rfl rfl rfl ?_
                  refine TO.assign rfl rfl rfl rfl ?_
                  refine TO.done ?_
                  refine X.seq_normal ?_
                  refine T.ret ?_
                  refine X.then_ret ?_
                  refine X.block_ret ?_
                  refine X.then_ret ?_
                  have H := loop_exitE H C_1 ▸ K_1
                  refine X.then_ret ?_
                  refine X.block_ret ?_
                  refine X.then_ret ?_
                  obtain ⟨rfl, rfl⟩ := ret2 H
                  exact X.ret2 rfl rfl rfl rfl (Res.tmp rfl) (Res.tmp rfl) (Pick.cons (Take.tail (Take.head _ _)) Pick.nil) ⟨ob9, n7, c8, j10, rfl, rfl, hn11, hc12, hj13, hz14⟩
                ·
                  refine T.condF rfl (Bool.eq_false_iff.2 g193) ?_
                  refine T.skip ?_
                  refine X.seq_normal ?_
                  refine T.regionL (ll := [0, 1]) rfl ?_
                  refine TO.move rfl rfl rfl rfl ?_
                  refine TO.assign rfl rfl rfl rfl ?_
                  refine TO.done ?_
                  refine X.block_normal ?_
                  exact X.metE5 r178 n182 c183 ob181 j184 ⟨H, hn185, hc186, hj187, hz188⟩ (AllF.cons rfl (AllF.cons rfl (AllF.cons rfl AllF.nil))) (Pick.cons (Take.head _ _) (Pick.cons (Take.tail (Take.head _ _)) Pick.nil))
      · rintro f194 n195 c196 ob197 j198 ⟨H, hn199, hc200, hj201, hz202⟩
        unfold m_acequialaw04_greatest_j12 at H
        obtain ⟨g204, H⟩ := gd_some H
        refine T.regionL (ll := [0, 1]) rfl ?_
        refine TO.addG g204 rfl rfl rfl rfl rfl ?_
        refine TO.move rfl rfl rfl rfl ?_
        refine TO.done ?_
        have H := loop_next H C_1
        exact X.againE7 n_1 f194 n195 c196 ob197 j198 (x16 + 1) ⟨H, hn199, hc200, hj201, hz202⟩ (Nat.lt_succ_self _) (AllF.cons rfl (AllF.cons rfl (AllF.cons rfl AllF.nil))) (Pick.cons (Take.head _ _) (Pick.cons (Take.head _ _) Pick.nil))
    ·
      refine T.condPF rfl g17 ?_
      refine T.exit ?_
      refine X.then_exit ?_
      have H := loop_exitE H C_1 ▸ K_1
      refine X.then_exit ?_
      refine X.block_here ?_
      exact X.metE5 f6 n7 c8 ob9 j10 ⟨H, hn11, hc12, hj13, hz14⟩ (AllF.cons rfl AllF.nil) (Pick.cons (Take.tail (Take.head _ _)) Pick.nil)
  · rintro f205 n206 c207 ob208 j209 ⟨H, hn210, hc211, hj212, hz213⟩
    unfold m_acequialaw04_greatest_j13 at H
    refine T.seq ?_
    refine T.regionL (ll := [0, 1, 2]) rfl ?_
    refine TO.move rfl rfl rfl rfl ?_
    refine TO.assign rfl rfl rfl rfl ?_
    refine TO.assign rfl rfl rfl rfl ?_
    refine TO.done ?_
    refine X.seq_normal ?_
    refine T.ret ?_
    obtain ⟨rfl, rfl⟩ := ret2 H
    exact X.ret2 rfl rfl rfl rfl (Res.tmp rfl) (Res.tmp rfl) (Pick.cons (Take.head _ _) Pick.nil) ⟨ob208, n206, c207, j209, rfl, rfl, hn210, hc211, hj212, hz213⟩
/-- acequia/acequialaw04.CutGreatest -/
theorem w_acequialaw04_CutGreatest {n0 : Net} {s1 : List Bool} {n0_Arcs_b : Option Addr} {n0_Arcs_n : Nat} {n0_Arcs_c : Nat} {s1_b : Option Addr} {s1_n : Nat} {s1_c : Nat} (w : World) (h_n0_Arcs : RS w [] arcC 3 n0_Arcs_b n0_Arcs_n n0_Arcs_c n0.Arcs) (h_s1 : RS w [] boolC 1 s1_b s1_n s1_c s1) {r0 : Bool} (H : m_acequialaw04_CutGreatest n0 s1 = some r0) : Fnc Try.prog 16 #[.agg #[.int .i64 n0.N, .int .i64 n0.S, .int .i64 n0.T, .slice n0_Arcs_b n0_Arcs_n n0_Arcs_c], .slice s1_b s1_n s1_c] w [] (fun v N => v = .bool r0 ∧ N = []) := by
  unfold m_acequialaw04_CutGreatest at H
  refine Fnc.enter (vs := [.agg #[.int .i64 n0.N, .int .i64 n0.S, .int .i64 n0.T, .slice n0_Arcs_b n0_Arcs_n n0_Arcs_c], .slice s1_b s1_n s1_c]) Try.func16 rfl rfl (Inv.refl w) ?_
  refine T.seq ?_
  refine T.regionL (ll := [0, 1]) rfl ?_
  refine TO.boxA rfl rfl rfl rfl ?_; intro b1
  refine TO.assign rfl rfl rfl rfl ?_
  refine TO.done ?_
  refine X.seq_normal ?_
  refine T.seq ?_
  obtain ⟨r3, e4, H⟩ := bd_some H
  refine T.regionL (ll := [0, 1, 2]) rfl ?_
  refine TO.loadA rfl rfl rfl rfl TWLCutGreatest.a24 (List.Mem.head _) rfl ?_
  refine TO.callX TWLCutGreatest.c17 rfl rfl rfl rfl (fun wc hwc => w_acequialow_Some (n0 := n0) (verts1 := 12) (arcs2 := 30) wc (h_n0_Arcs.mono hwc) e4) ?_
  rintro _ _ ⟨ob5, n6, c7, j8, rfl, rfl, hn9, hc10, hj11, hz12⟩
  refine TO.storeA rfl rfl rfl rfl (Take.tail (Take.head _ _)) TWLCutGreatest.n24 rfl rfl rfl ?_
  refine TO.done ?_
  refine X.seq_normal ?_
  refine T.seq ?_
  obtain ⟨⟨r14, r15⟩, e16, H⟩ := bd_some H
  refine T.regionL (ll := [0, 1, 2, 3, 4, 5, 6]) rfl ?_
  refine TO.loadA rfl rfl rfl rfl TWLCutGreatest.a24 (List.Mem.head _) rfl ?_
  refine TO.callX TWLCutGreatest.c50 rfl rfl rfl rfl (fun wc hwc => w_acequialaw04_greatest (n0 := r3) wc (hwc.rs (f := arcC) (s := 3) (xs := r3.Arcs) (j := j8) (fun _ => rfl) (List.Mem.tail _ (List.Mem.head _)) hn9 hc10 hz12) e16) ?_
  rintro _ _ ⟨ob17, n18, c19, j20, rfl, rfl, hn21, hc22, hj23, hz24⟩
  refine TO.move rfl rfl rfl rfl ?_
  refine TO.extract rfl rfl rfl rfl rfl ?_
  refine TO.extract rfl rfl rfl rfl rfl ?_
  refine TO.assign rfl rfl rfl rfl ?_
  refine TO.assign rfl rfl rfl rfl ?_
  refine TO.done ?_
  refine X.seq_normal ?_
  refine T.trim (AllF.cons (t := 1) rfl (AllF.cons (t := 2) rfl (AllF.cons (t := 5) rfl (AllF.cons (t := 6) rfl AllF.nil)))) ?_
  refine T.seq ?_
  refine T.seq ?_
  refine T.regionL (ll := [0, 1]) rfl ?_
  refine TO.move rfl rfl rfl rfl ?_
  refine TO.not rfl rfl rfl rfl ?_
  refine TO.done ?_
  refine X.seq_normal ?_
  rcases ite_some H with ⟨g26, H⟩ | ⟨g26, H⟩
  ·
    refine T.condT rfl g26 ?_
    refine T.seq ?_
    obtain ⟨r27, e28, H⟩ := bd_some H
    refine T.regionL (ll := [0, 1]) rfl ?_
    refine TO.callX TWLCutGreatest.c42 rfl rfl rfl rfl (fun wc hwc => w_acequialaw04_awake  wc  e28) ?_
    rintro _ _ ⟨rfl, rfl⟩
    refine TO.assign rfl rfl rfl rfl ?_
    refine TO.done ?_
    refine X.seq_normal ?_
    refine T.ret ?_
    refine X.then_ret ?_
    obtain rfl := ret1 H
    exact X.ret1 rfl rfl rfl rfl (Res.tmp rfl) Pick.nil ⟨rfl, rfl⟩
  ·
    refine T.condF rfl (Bool.eq_false_iff.2 g26) ?_
    refine T.skip ?_
    refine X.seq_normal ?_
    refine T.seq ?_
    obtain ⟨⟨r29, r30⟩, e31, H⟩ := bd_some H
    refine T.regionL (ll := [0, 1, 2, 3, 4, 5, 6, 7]) rfl ?_
    refine TO.loadA rfl rfl rfl rfl TWLCutGreatest.a24 (List.Mem.tail _ (List.Mem.head _)) rfl ?_
    refine TO.move rfl rfl rfl rfl ?_
    refine TO.callX TWLCutGreatest.c29 rfl rfl rfl rfl (fun wc hwc => w_flow_Value (n0 := r3) (f1 := r14) wc (hwc.rs (f := arcC) (s := 3) (xs := r3.Arcs) (j := j8) (fun _ => rfl) (List.Mem.tail _ (List.Mem.tail _ (List.Mem.head _))) hn9 hc10 hz12) (hwc.rs (f := (intC .i64)) (s := 1) (xs := r14) (j := j20) (fun _ => rfl) (List.Mem.head _) hn21 hc22 hz24) e31) ?_
    rintro _ _ ⟨rfl, rfl⟩
    refine TO.move rfl rfl rfl rfl ?_
    refine TO.extract rfl rfl rfl rfl rfl ?_
    refine TO.extract rfl rfl rfl rfl rfl ?_
    refine TO.assign rfl rfl rfl rfl ?_
    refine TO.assign rfl rfl rfl rfl ?_
    refine TO.done ?_
    refine X.seq_normal ?_
    refine T.trim (AllF.cons (t := 1) rfl (AllF.cons (t := 2) rfl (AllF.cons (t := 5) rfl (AllF.cons (t := 7) rfl (AllF.cons (t := 8) rfl AllF.nil))))) ?_
    refine T.seq ?_
    obtain ⟨⟨r32, r33⟩, e34, H⟩ := bd_some H
    refine T.regionL (ll := [0, 1, 2, 3, 4, 5, 6, 7]) rfl ?_
    refine TO.loadA rfl rfl rfl rfl TWLCutGreatest.a24 (List.Mem.tail _ (List.Mem.head _)) rfl ?_
    refine TO.move rfl rfl rfl rfl ?_
    refine TO.callX TWLCutGreatest.c39 rfl rfl rfl rfl (fun wc hwc => w_cut_From (n0 := r3) (f1 := r14) wc (hwc.rs (f := arcC) (s := 3) (xs := r3.Arcs) (j := j8) (fun _ => rfl) (List.Mem.tail _ (List.Mem.tail _ (List.Mem.head _))) hn9 hc10 hz12) (hwc.rs (f := (intC .i64)) (s := 1) (xs := r14) (j := j20) (fun _ => rfl) (List.Mem.head _) hn21 hc22 hz24) e34) ?_
    rintro _ _ ⟨ob35, n36, c37, j38, rfl, rfl, hn39, hc40, hj41, hz42⟩
    refine TO.move rfl rfl rfl rfl ?_
    refine TO.extract rfl rfl rfl rfl rfl ?_
    refine TO.extract rfl rfl rfl rfl rfl ?_
    refine TO.assign rfl rfl rfl rfl ?_
    refine TO.assign rfl rfl rfl rfl ?_
    refine TO.done ?_
    refine X.seq_normal ?_
    refine T.seq ?_
    obtain ⟨⟨r44, r45⟩, e46, H⟩ := bd_some H
    refine T.regionL (ll := [0, 1, 2, 3, 4, 5, 6, 7]) rfl ?_
    refine TO.loadA rfl rfl rfl rfl TWLCutGreatest.a24 (List.Mem.tail _ (List.Mem.tail _ (List.Mem.head _))) rfl ?_
    refine TO.move rfl rfl rfl rfl ?_
    refine TO.callX TWLCutGreatest.c40 rfl rfl rfl rfl (fun wc hwc => w_cut_To (n0 := r3) (f1 := r14) wc (hwc.rs (f := arcC) (s := 3) (xs := r3.Arcs) (j := j8) (fun _ => rfl) (List.Mem.tail _ (List.Mem.tail _ (List.Mem.tail _ (List.Mem.head _)))) hn9 hc10 hz12) (hwc.rs (f := (intC .i64)) (s := 1) (xs := r14) (j := j20) (fun _ => rfl) (List.Mem.tail _ (List.Mem.head _)) hn21 hc22 hz24) e46) ?_
    rintro _ _ ⟨ob47, n48, c49, j50, rfl, rfl, hn51, hc52, hj53, hz54⟩
    refine TO.move rfl rfl rfl rfl ?_
    refine TO.extract rfl rfl rfl rfl rfl ?_
    refine TO.extract rfl rfl rfl rfl rfl ?_
    refine TO.assign rfl rfl rfl rfl ?_
    refine TO.assign rfl rfl rfl rfl ?_
    refine TO.done ?_
    refine X.seq_normal ?_
    refine T.trim (AllF.cons (t := 1) rfl (AllF.cons (t := 2) rfl (AllF.cons (t := 5) rfl (AllF.cons (t := 7) rfl (AllF.cons (t := 8) rfl (AllF.cons (t := 9) rfl (AllF.cons (t := 10) rfl (AllF.cons (t := 11) rfl (AllF.cons (t := 12) rfl AllF.nil))))))))) ?_
    refine T.seq ?_
    refine T.seq ?_
    refine T.regionL (ll := [0, 1, 2, 3, 4, 5, 6, 7, 8, 9, 10, 11, 12, 13, 14, 15, 16, 17, 18, 19, 20, 21, 22, 23]) rfl ?_
    refine TO.move rfl rfl rfl rfl ?_
    refine TO.bin rfl rfl rfl rfl rfl rfl ?_
    refine TO.move rfl rfl rfl rfl ?_
    refine TO.join [3, 4, 5] [6, 7, 8, 9, 10, 11, 12, 13, 14, 15, 16, 17, 18, 19, 20, 21, 22, 23] rfl 54 (fun b57 => m_acequialaw04_CutGreatest_j1 s1 r3 r14 r29 r32 r44 r45 b57 = some r0) [(1, .slice s1_b s1_n s1_c), (2, .pointer (some ⟨b1, 0, none⟩)), (5, .slice (sb ob17) n18 c19), (7, .int .i64 r29), (9, .slice (sb ob35) n36 c37), (11, .slice (sb ob47) n48 c49), (12, .int .i64 r45)] ?_ ?_
    ·
      rcases ite_some H with ⟨g56, H⟩ | ⟨g56, H⟩
      ·
        refine TO.decB (t := 51) (b' := true) rfl (decide_eq_true g56) ?_
        refine TO.shut rfl rfl rfl rfl ?_
        refine TO.shut rfl rfl rfl rfl ?_
        refine TO.pickT rfl rfl rfl rfl rfl ?_
        refine TO.done ?_
        exact X.jn (b := true) H (AllF.cons rfl (AllF.cons rfl (AllF.cons rfl (AllF.cons rfl (AllF.cons rfl (AllF.cons rfl (AllF.cons rfl (AllF.cons rfl AllF.nil))))))))
      ·
        refine TO.decB (t := 51) (b' := false) rfl (decide_eq_false g56) ?_
        refine TO.move rfl rfl rfl rfl ?_
        refine TO.bin rfl rfl rfl rfl rfl rfl ?_
        refine TO.pickF rfl rfl rfl rfl rfl ?_
        refine TO.done ?_
        exact X.jn (b := (decide (r33 ≠ 0))) H (AllF.cons rfl (AllF.cons rfl (AllF.cons rfl (AllF.cons rfl (AllF.cons rfl (AllF.cons rfl (AllF.cons rfl (AllF.cons rfl AllF.nil))))))))
    · rintro b57 H
      unfold m_acequialaw04_CutGreatest_j1 at H
      refine TO.move rfl rfl rfl rfl ?_
      refine TO.join [7, 8, 9] [10, 11, 12, 13, 14, 15, 16, 17, 18, 19, 20, 21, 22, 23] rfl 58 (fun b59 => m_acequialaw04_CutGreatest_j2 s1 r3 r14 r29 r32 r44 b59 = some r0) [(1, .slice s1_b s1_n s1_c), (2, .pointer (some ⟨b1, 0, none⟩)), (5, .slice (sb ob17) n18 c19), (7, .int .i64 r29), (9, .slice (sb ob35) n36 c37), (11, .slice (sb ob47) n48 c49)] ?_ ?_
      ·
        rcases ite_some H with ⟨g58, H⟩ | ⟨g58, H⟩
        ·
          refine TO.decB (t := 55) (b' := true) rfl g58 ?_
          refine TO.shut rfl rfl rfl rfl ?_
          refine TO.shut rfl rfl rfl rfl ?_
          refine TO.pickT rfl rfl rfl rfl rfl ?_
          refine TO.done ?_
          exact X.jn (b := true) H (AllF.cons rfl (AllF.cons rfl (AllF.cons rfl (AllF.cons rfl (AllF.cons rfl (AllF.cons rfl (AllF.cons rfl AllF.nil)))))))
        ·
          refine TO.decB (t := 55) (b' := false) rfl (Bool.eq_false_iff.2 g58) ?_
          refine TO.move rfl rfl rfl rfl ?_
          refine TO.bin rfl rfl rfl rfl rfl rfl ?_
          refine TO.pickF rfl rfl rfl rfl rfl ?_
          refine TO.done ?_
          exact X.jn (b := (decide (r45 ≠ 0))) H (AllF.cons rfl (AllF.cons rfl (AllF.cons rfl (AllF.cons rfl (AllF.cons rfl (AllF.cons rfl (AllF.cons rfl AllF.nil)))))))
      · rintro b59 H
        unfold m_acequialaw04_CutGreatest_j2 at H
        refine TO.move rfl rfl rfl rfl ?_
        refine TO.join [11, 12, 13, 14, 15, 16] [17, 18, 19, 20, 21, 22, 23] rfl 65 (fun b63 => m_acequialaw04_CutGreatest_j3 s1 r3 r14 r29 r32 r44 b63 = some r0) [(1, .slice s1_b s1_n s1_c), (2, .pointer (some ⟨b1, 0, none⟩)), (5, .slice (sb ob17) n18 c19), (7, .int .i64 r29), (9, .slice (sb ob35) n36 c37), (11, .slice (sb ob47) n48 c49)] ?_ ?_
        ·
          rcases ite_some H with ⟨g60, H⟩ | ⟨g60, H⟩
          ·
            refine TO.decB (t := 59) (b' := true) rfl g60 ?_
            refine TO.shut rfl rfl rfl rfl ?_
            refine TO.shut rfl rfl rfl rfl ?_
            refine TO.shut rfl rfl rfl rfl ?_
            refine TO.shut rfl rfl rfl rfl ?_
            refine TO.shut rfl rfl rfl rfl ?_
            refine TO.pickT rfl rfl rfl rfl rfl ?_
            refine TO.done ?_
            exact X.jn (b := true) H (AllF.cons rfl (AllF.cons rfl (AllF.cons rfl (AllF.cons rfl (AllF.cons rfl (AllF.cons rfl (AllF.cons rfl AllF.nil)))))))
          ·
            obtain ⟨r61, e62, H⟩ := bd_some H
            refine TO.decB (t := 59) (b' := false) rfl (Bool.eq_false_iff.2 g60) ?_
            refine TO.loadA rfl rfl rfl rfl TWLCutGreatest.a24 (List.Mem.tail _ (List.Mem.tail _ (List.Mem.tail _ (List.Mem.head _)))) rfl ?_
            refine TO.move rfl rfl rfl rfl ?_
            refine TO.move rfl rfl rfl rfl ?_
            refine TO.callX TWLCutGreatest.c46 rfl rfl rfl rfl (fun wc hwc => w_cut_Tight (n0 := r3) (f1 := r14) (s2 := r32) wc (hwc.rs (f := arcC) (s := 3) (xs := r3.Arcs) (j := j8) (fun _ => rfl) (List.Mem.tail _ (List.Mem.tail _ (List.Mem.tail _ (List.Mem.tail _ (List.Mem.head _))))) hn9 hc10 hz12) (hwc.rs (f := (intC .i64)) (s := 1) (xs := r14) (j := j20) (fun _ => rfl) (List.Mem.tail _ (List.Mem.tail _ (List.Mem.head _))) hn21 hc22 hz24) (hwc.rs (f := boolC) (s := 1) (xs := r32) (j := j38) (fun _ => rfl) (List.Mem.tail _ (List.Mem.head _)) hn39 hc40 hz42) e62) ?_
            rintro _ _ ⟨rfl, rfl⟩
            refine TO.not rfl rfl rfl rfl ?_
            refine TO.pickF rfl rfl rfl rfl rfl ?_
            refine TO.done ?_
            exact X.jn (b := (!r61)) H (AllF.cons rfl (AllF.cons rfl (AllF.cons rfl (AllF.cons rfl (AllF.cons rfl (AllF.cons rfl (AllF.cons rfl AllF.nil)))))))
        · rintro b63 H
          unfold m_acequialaw04_CutGreatest_j3 at H
          refine TO.move rfl rfl rfl rfl ?_
          refine TO.join [18, 19, 20, 21, 22, 23] [] rfl 72 (fun b67 => m_acequialaw04_CutGreatest_j4 s1 r3 r14 r29 r32 r44 b67 = some r0) [(1, .slice s1_b s1_n s1_c), (2, .pointer (some ⟨b1, 0, none⟩)), (5, .slice (sb ob17) n18 c19), (7, .int .i64 r29), (9, .slice (sb ob35) n36 c37), (11, .slice (sb ob47) n48 c49)] ?_ ?_
          ·
            rcases ite_some H with ⟨g64, H⟩ | ⟨g64, H⟩
            ·
              refine TO.decB (t := 66) (b' := true) rfl g64 ?_
              refine TO.shut rfl rfl rfl rfl ?_
              refine TO.shut rfl rfl rfl rfl ?_
              refine TO.shut rfl rfl rfl rfl ?_
              refine TO.shut rfl rfl rfl rfl ?_
              refine TO.shut rfl rfl rfl rfl ?_
              refine TO.pickT rfl rfl rfl rfl rfl ?_
              refine TO.done ?_
              exact X.jn (b := true) H (AllF.cons rfl (AllF.cons rfl (AllF.cons rfl (AllF.cons rfl (AllF.cons rfl (AllF.cons rfl (AllF.cons rfl AllF.nil)))))))
            ·
              obtain ⟨r65, e66, H⟩ := bd_some H
              refine TO.decB (t := 66) (b' := false) rfl (Bool.eq_false_iff.2 g64) ?_
              refine TO.loadA rfl rfl rfl rfl TWLCutGreatest.a24 (List.Mem.tail _ (List.Mem.tail _ (List.Mem.tail _ (List.Mem.head _)))) rfl ?_
              refine TO.move rfl rfl rfl rfl ?_
              refine TO.move rfl rfl rfl rfl ?_
              refine TO.callX TWLCutGreatest.c46 rfl rfl rfl rfl (fun wc hwc => w_cut_Tight (n0 := r3) (f1 := r14) (s2 := r44) wc (hwc.rs (f := arcC) (s := 3) (xs := r3.Arcs) (j := j8) (fun _ => rfl) (List.Mem.tail _ (List.Mem.tail _ (List.Mem.tail _ (List.Mem.tail _ (List.Mem.head _))))) hn9 hc10 hz12) (hwc.rs (f := (intC .i64)) (s := 1) (xs := r14) (j := j20) (fun _ => rfl) (List.Mem.tail _ (List.Mem.tail _ (List.Mem.head _))) hn21 hc22 hz24) (hwc.rs (f := boolC) (s := 1) (xs := r44) (j := j50) (fun _ => rfl) (List.Mem.head _) hn51 hc52 hz54) e66) ?_
              rintro _ _ ⟨rfl, rfl⟩
              refine TO.not rfl rfl rfl rfl ?_
              refine TO.pickF rfl rfl rfl rfl rfl ?_
              refine TO.done ?_
              exact X.jn (b := (!r65)) H (AllF.cons rfl (AllF.cons rfl (AllF.cons rfl (AllF.cons rfl (AllF.cons rfl (AllF.cons rfl (AllF.cons rfl AllF.nil)))))))
          · rintro b67 H
            unfold m_acequialaw04_CutGreatest_j4 at H
            refine TO.done ?_
            refine X.seq_normal ?_
            rcases ite_some H with ⟨g68, H⟩ | ⟨g68, H⟩
            ·
              refine T.condT rfl g68 ?_
              refine T.seq ?_
              refine T.regionL (ll := [0]) rfl ?_
              refine TO.assign rfl rfl rfl rfl ?_
              refine TO.done ?_
              refine X.seq_normal ?_
              refine T.ret ?_
              refine X.then_ret ?_
              obtain rfl := ret1 H
              exact X.ret1 rfl rfl rfl rfl (Res.tmp rfl) Pick.nil ⟨rfl, rfl⟩
            ·
              refine T.condF rfl (Bool.eq_false_iff.2 g68) ?_
              refine T.skip ?_
              refine X.seq_normal ?_
              refine T.seq ?_
              refine T.seq ?_
              refine T.regionL (ll := [0, 1, 2, 3, 4]) rfl ?_
              refine TO.move rfl rfl rfl rfl ?_
              refine TO.move rfl rfl rfl rfl ?_
              refine TO.buildSliceS [.slice none 0 0, .slice none 0 0] [0, 1] rfl rfl rfl rfl TWLCutGreatest.l81 TWLCutGreatest.n31 TWLCutGreatest.z31 rfl rfl (by simp only [setAll, setCells, Value.cells, List.toList_toArray, List.getD_cons_zero, List.getD_cons_succ, List.set_cons_zero, List.set_cons_succ]; rfl) (by kernel_rfl) ?_; intro b69
              refine TO.lenX (xs := ([.slice (sb ob35) n36 c37, .slice (sb ob47) n48 c49] : List Value)) (n := 2) rfl rfl rfl rfl rfl rfl TWLCutGreatest.l81 ?_
              refine TO.move rfl rfl rfl rfl ?_
              refine TO.done ?_
              refine X.seq_normal ?_
              refine T.meetSE1 (fun (u81 : Unit) => m_acequialaw04_CutGreatest_j5 s1 r3 r14 r29 r32 r44 = some r0) (fun (u81 : Unit) => [(1, .slice s1_b s1_n s1_c), (2, .pointer (some ⟨b1, 0, none⟩)), (5, .slice (sb ob17) n18 c19), (7, .int .i64 r29), (9, .slice (sb ob35) n36 c37), (11, .slice (sb ob47) n48 c49)]) (fun (u81 : Unit) => [(some b1, .cells #[.int .i64 r3.N, .int .i64 r3.S, .int .i64 r3.T, .slice (sb ob5) n6 c7] 24 (0, 0)), (ob5, .cells (arr arcC r3.Arcs j8).toArray 28 (0, 0)), (ob17, .cells (arr (intC .i64) r14 j20).toArray 2 (0, 0)), (ob35, .cells (arr boolC r32 j38).toArray 4 (0, 0)), (ob47, .cells (arr boolC r44 j50).toArray 4 (0, 0))]) ?_ ?_
              ·
                refine T.block ?_
                refine T.loopU ?_
                refine RT.round ?_
                refine T.seq ?_
                refine T.regionL (ll := [0]) rfl ?_
                refine TO.binK (b := true) rfl rfl rfl rfl rfl rfl (by first | decide | rfl) ?_
                refine TO.done ?_
                refine X.seq_normal ?_
                refine T.seq ?_
                refine T.condT rfl rfl ?_
                refine T.skip ?_
                refine X.seq_normal ?_
                refine T.seq ?_
                refine T.block ?_
                refine T.seq ?_
                refine T.regionL (ll := [0, 1, 2]) rfl ?_
                refine TO.ix1 (xs := ([.slice (sb ob35) n36 c37, .slice (sb ob47) n48 c49] : List Value)) (n := 2) rfl (inbLit (k := 0) rfl) rfl rfl rfl rfl rfl TWLCutGreatest.l81 TWLCutGreatest.n31 ?_
                refine TO.load1 rfl rfl rfl rfl TWLCutGreatest.s31 (List.Mem.head _) rfl ?_
                refine TO.assign rfl rfl rfl rfl ?_
                refine TO.done ?_
                refine X.seq_normal ?_
                refine T.seq ?_
                obtain ⟨⟨r71, r72⟩, e73, H⟩ := bd_some H
                refine T.regionL (ll := [0, 1, 2, 3, 4, 5, 6, 7]) rfl ?_
                refine TO.loadA rfl rfl rfl rfl TWLCutGreatest.a24 (List.Mem.tail _ (List.Mem.tail _ (List.Mem.tail _ (List.Mem.tail _ (List.Mem.head _))))) rfl ?_
                refine TO.move rfl rfl rfl rfl ?_
                refine TO.callX TWLCutGreatest.c44 rfl rfl rfl rfl (fun wc hwc => w_cut_Cap (n0 := r3) (s1 := r32) wc (hwc.rs (f := arcC) (s := 3) (xs := r3.Arcs) (j := j8) (fun _ => rfl) (List.Mem.tail _ (List.Mem.tail _ (List.Mem.tail _ (List.Mem.tail _ (List.Mem.tail _ (List.Mem.head _)))))) hn9 hc10 hz12) (hwc.rs (f := boolC) (s := 1) (xs := r32) (j := j38) (fun _ => rfl) (List.Mem.tail _ (List.Mem.tail _ (List.Mem.head _))) hn39 hc40 hz42) e73) ?_
                rintro _ _ ⟨rfl, rfl⟩
                refine TO.move rfl rfl rfl rfl ?_
                refine TO.extract rfl rfl rfl rfl rfl ?_
                refine TO.extract rfl rfl rfl rfl rfl ?_
                refine TO.assign rfl rfl rfl rfl ?_
                refine TO.assign rfl rfl rfl rfl ?_
                refine TO.done ?_
                refine X.seq_normal ?_
                refine T.trim (AllF.cons (t := 1) rfl (AllF.cons (t := 2) rfl (AllF.cons (t := 5) rfl (AllF.cons (t := 7) rfl (AllF.cons (t := 9) rfl (AllF.cons (t := 11) rfl (AllF.cons (t := 75) rfl (AllF.cons (t := 76) rfl (AllF.cons (t := 77) rfl (AllF.cons (t := 15) rfl (AllF.cons (t := 16) rfl AllF.nil))))))))))) ?_
                refine T.seq ?_
                rcases ite_some H with ⟨g74, H⟩ | ⟨g74, H⟩
                ·
                  refine T.regionL (ll := [0, 1, 2, 3, 4, 5, 6]) rfl ?_
                  refine TO.move rfl rfl rfl rfl ?_
                  refine TO.bin rfl rfl rfl rfl rfl rfl ?_
                  refine TO.move rfl rfl rfl rfl ?_
                  refine TO.decB (t := 89) (b' := true) rfl (decide_eq_true g74) ?_
                  refine TO.shut rfl rfl rfl rfl ?_
                  refine TO.shut rfl rfl rfl rfl ?_
                  refine TO.shut rfl rfl rfl rfl ?_
                  refine TO.pickT rfl rfl rfl rfl rfl ?_
                  refine TO.done ?_
                  refine X.seq_normal ?_
                  refine T.condT rfl rfl ?_
                  refine T.seq ?_
                  refine T.regionL (ll := [0]) rfl ?_
                  refine TO.assign rfl rfl rfl rfl ?_
                  refine TO.done ?_
                  refine X.seq_normal ?_
                  refine T.trim (AllF.cons (t := 4) rfl AllF.nil) ?_
                  refine T.ret ?_
                  refine X.block_ret ?_
                  refine X.then_ret ?_
                  refine X.then_ret ?_
                  refine X.block_ret ?_
                  refine X.then_ret ?_
                  obtain rfl := ret1 H
                  exact X.ret1 rfl rfl rfl rfl (Res.tmp rfl) Pick.nil ⟨rfl, rfl⟩
                ·
                  refine T.regionL (ll := [0, 1, 2, 3, 4, 5, 6]) rfl ?_
                  refine TO.move rfl rfl rfl rfl ?_
                  refine TO.bin rfl rfl rfl rfl rfl rfl ?_
                  refine TO.move rfl rfl rfl rfl ?_
                  refine TO.decB (t := 89) (b' := false) rfl (decide_eq_false g74) ?_
                  refine TO.move rfl rfl rfl rfl ?_
                  refine TO.move rfl rfl rfl rfl ?_
                  refine TO.bin rfl rfl rfl rfl rfl rfl ?_
                  refine TO.pickF rfl rfl rfl rfl rfl ?_
                  refine TO.done ?_
                  refine X.seq_normal ?_
                  rcases ite_some H with ⟨g75, H⟩ | ⟨g75, H⟩
                  ·
                    refine T.condPT rfl g75 ?_
                    refine T.seq ?_
                    refine T.regionL (ll := [0]) rfl ?_
                    refine TO.assign rfl rfl rfl rfl ?_
                    refine TO.done ?_
                    refine X.seq_normal ?_
                    refine T.trim (AllF.cons (t := 4) rfl AllF.nil) ?_
                    refine T.ret ?_
                    refine X.block_ret ?_
                    refine X.then_ret ?_
                    refine X.then_ret ?_
                    refine X.block_ret ?_
                    refine X.then_ret ?_
                    obtain rfl := ret1 H
                    exact X.ret1 rfl rfl rfl rfl (Res.tmp rfl) Pick.nil ⟨rfl, rfl⟩
                  ·
                    refine T.condPF rfl g75 ?_
                    refine T.skip ?_
                    refine X.block_normal ?_
                    refine X.seq_normal ?_
                    refine T.regionL (ll := [0, 1]) rfl ?_
                    refine TO.addL (r := 1) (by decide) rfl rfl rfl rfl rfl ?_
                    refine TO.move rfl rfl rfl rfl ?_
                    refine TO.done ?_
                    refine X.round ?_
                    refine RT.round ?_
                    refine T.seq ?_
                    refine T.regionL (ll := [0]) rfl ?_
                    refine TO.binK (b := true) rfl rfl rfl rfl rfl rfl (by first | decide | rfl) ?_
                    refine TO.done ?_
                    refine X.seq_normal ?_
                    refine T.seq ?_
                    refine T.condT rfl rfl ?_
                    refine T.skip ?_
                    refine X.seq_normal ?_
                    refine T.trim (AllF.cons (t := 1) rfl (AllF.cons (t := 2) rfl (AllF.cons (t := 5) rfl (AllF.cons (t := 7) rfl (AllF.cons (t := 9) rfl (AllF.cons (t := 11) rfl (AllF.cons (t := 75) rfl (AllF.cons (t := 76) rfl (AllF.cons (t := 77) rfl (AllF.cons (t := 90) rfl (AllF.cons (t := 91) rfl (AllF.cons (t := 92) rfl AllF.nil)))))))))))) ?_
                    refine T.seq ?_
                    refine T.block ?_
                    refine T.seq ?_
                    refine T.regionL (ll := [0, 1, 2]) rfl ?_
                    refine TO.ix1 (xs := ([.slice (sb ob35) n36 c37, .slice (sb ob47) n48 c49] : List Value)) (n := 2) rfl (inbLit (k := 1) rfl) rfl rfl rfl rfl rfl TWLCutGreatest.l81 TWLCutGreatest.n31 ?_
                    refine TO.load1 rfl rfl rfl rfl TWLCutGreatest.s31 (List.Mem.head _) rfl ?_
                    refine TO.assign rfl rfl rfl rfl ?_
                    refine TO.done ?_
                    refine X.seq_normal ?_
                    refine T.seq ?_
                    obtain ⟨⟨r76, r77⟩, e78, H⟩ := bd_some H
                    refine T.regionL (ll := [0, 1, 2, 3, 4, 5, 6, 7]) rfl ?_
                    refine TO.loadA rfl rfl rfl rfl TWLCutGreatest.a24 (List.Mem.tail _ (List.Mem.tail _ (List.Mem.tail _ (List.Mem.tail _ (List.Mem.head _))))) rfl ?_
                    refine TO.move rfl rfl rfl rfl ?_
                    refine TO.callX TWLCutGreatest.c44 rfl rfl rfl rfl (fun wc hwc => w_cut_Cap (n0 := r3) (s1 := r44) wc (hwc.rs (f := arcC) (s := 3) (xs := r3.Arcs) (j := j8) (fun _ => rfl) (List.Mem.tail _ (List.Mem.tail _ (List.Mem.tail _ (List.Mem.tail _ (List.Mem.tail _ (List.Mem.head _)))))) hn9 hc10 hz12) (hwc.rs (f := boolC) (s := 1) (xs := r44) (j := j50) (fun _ => rfl) (List.Mem.tail _ (List.Mem.head _)) hn51 hc52 hz54) e78) ?_
                    rintro _ _ ⟨rfl, rfl⟩
                    refine TO.move rfl rfl rfl rfl ?_
                    refine TO.extract rfl rfl rfl rfl rfl ?_
                    refine TO.extract rfl rfl rfl rfl rfl ?_
                    refine TO.assign rfl rfl rfl rfl ?_
                    refine TO.assign rfl rfl rfl rfl ?_
                    refine TO.done ?_
                    refine X.seq_normal ?_
                    refine T.trim (AllF.cons (t := 1) rfl (AllF.cons (t := 2) rfl (AllF.cons (t := 5) rfl (AllF.cons (t := 7) rfl (AllF.cons (t := 9) rfl (AllF.cons (t := 11) rfl (AllF.cons (t := 75) rfl (AllF.cons (t := 76) rfl (AllF.cons (t := 77) rfl (AllF.cons (t := 90) rfl (AllF.cons (t := 91) rfl (AllF.cons (t := 92) rfl (AllF.cons (t := 15) rfl (AllF.cons (t := 16) rfl AllF.nil)))))))))))))) ?_
                    refine T.seq ?_
                    rcases ite_some H with ⟨g79, H⟩ | ⟨g79, H⟩
                    ·
                      refine T.regionL (ll := [0, 1, 2, 3, 4, 5, 6]) rfl ?_
                      refine TO.move rfl rfl rfl rfl ?_
                      refine TO.bin rfl rfl rfl rfl rfl rfl ?_
                      refine TO.move rfl rfl rfl rfl ?_
                      refine TO.decB (t := 89) (b' := true) rfl (decide_eq_true g79) ?_
                      refine TO.shut rfl rfl rfl rfl ?_
                      refine TO.shut rfl rfl rfl rfl ?_
                      refine TO.shut rfl rfl rfl rfl ?_
                      refine TO.pickT rfl rfl rfl rfl rfl ?_
                      refine TO.done ?_
                      refine X.seq_normal ?_
                      refine T.condT rfl rfl ?_
                      refine T.seq ?_
                      refine T.regionL (ll := [0]) rfl ?_
                      refine TO.assign rfl rfl rfl rfl ?_
                      refine TO.done ?_
                      refine X.seq_normal ?_
                      refine T.trim (AllF.cons (t := 4) rfl AllF.nil) ?_
                      refine T.ret ?_
                      refine X.block_ret ?_
                      refine X.then_ret ?_
                      refine X.then_ret ?_
                      refine X.block_ret ?_
                      refine X.then_ret ?_
                      obtain rfl := ret1 H
                      exact X.ret1 rfl rfl rfl rfl (Res.tmp rfl) Pick.nil ⟨rfl, rfl⟩
                    ·
                      refine T.regionL (ll := [0, 1, 2, 3, 4, 5, 6]) rfl ?_
                      refine TO.move rfl rfl rfl rfl ?_
                      refine TO.bin rfl rfl rfl rfl rfl rfl ?_
                      refine TO.move rfl rfl rfl rfl ?_
                      refine TO.decB (t := 89) (b' := false) rfl (decide_eq_false g79) ?_
                      refine TO.move rfl rfl rfl rfl ?_
                      refine TO.move rfl rfl rfl rfl ?_
                      refine TO.bin rfl rfl rfl rfl rfl rfl ?_
                      refine TO.pickF rfl rfl rfl rfl rfl ?_
                      refine TO.done ?_
                      refine X.seq_normal ?_
                      rcases ite_some H with ⟨g80, H⟩ | ⟨g80, H⟩
                      ·
                        refine T.condPT rfl g80 ?_
                        refine T.seq ?_
                        refine T.regionL (ll := [0]) rfl ?_
                        refine TO.assign rfl rfl rfl rfl ?_
                        refine TO.done ?_
                        refine X.seq_normal ?_
                        refine T.trim (AllF.cons (t := 4) rfl AllF.nil) ?_
                        refine T.ret ?_
                        refine X.block_ret ?_
                        refine X.then_ret ?_
                        refine X.then_ret ?_
                        refine X.block_ret ?_
                        refine X.then_ret ?_
                        obtain rfl := ret1 H
                        exact X.ret1 rfl rfl rfl rfl (Res.tmp rfl) Pick.nil ⟨rfl, rfl⟩
                      ·
                        refine T.condPF rfl g80 ?_
                        refine T.skip ?_
                        refine X.block_normal ?_
                        refine X.seq_normal ?_
                        refine T.regionL (ll := [0, 1]) rfl ?_
                        refine TO.addL (r := 2) (by decide) rfl rfl rfl rfl rfl ?_
                        refine TO.move rfl rfl rfl rfl ?_
                        refine TO.done ?_
                        refine X.round ?_
                        refine RT.round ?_
                        refine T.seq ?_
                        refine T.regionL (ll := [0]) rfl ?_
                        refine TO.binK (b := false) rfl rfl rfl rfl rfl rfl (by first | decide | rfl) ?_
                        refine TO.done ?_
                        refine X.seq_normal ?_
                        refine T.seq ?_
                        refine T.condF rfl rfl ?_
                        refine T.exit ?_
                        refine X.then_exit ?_
                        refine X.then_exit ?_
                        refine X.block_here ?_
                        exact X.metE1 () H (AllF.cons rfl (AllF.cons rfl (AllF.cons rfl (AllF.cons rfl (AllF.cons rfl (AllF.cons rfl AllF.nil)))))) (Pick.cons (Take.tail (Take.tail (Take.tail (Take.tail (Take.head _ _))))) (Pick.cons (Take.tail (Take.tail (Take.tail (Take.tail (Take.head _ _))))) (Pick.cons (Take.tail (Take.tail (Take.tail (Take.head _ _)))) (Pick.cons (Take.tail (Take.tail (Take.head _ _))) (Pick.cons (Take.tail (Take.head _ _)) Pick.nil)))))
              · rintro u81 H
                unfold m_acequialaw04_CutGreatest_j5 at H
                refine T.seq ?_
                obtain ⟨r82, e83, H⟩ := bd_some H
                refine T.regionL (ll := [0, 1, 2, 3]) rfl ?_
                refine TO.loadA rfl rfl rfl rfl TWLCutGreatest.a24 (List.Mem.head _) rfl ?_
                refine TO.move rfl rfl rfl rfl ?_
                refine TO.callX TWLCutGreatest.c43 rfl rfl rfl rfl (fun wc hwc => w_acequialaw04_side (n0 := r3) (s1 := s1) wc (hwc.rs (f := arcC) (s := 3) (xs := r3.Arcs) (j := j8) (fun _ => rfl) (List.Mem.tail _ (List.Mem.head _)) hn9 hc10 hz12) (h_s1.mono hwc) e83) ?_
                rintro _ _ ⟨ob84, n85, c86, j87, rfl, rfl, hn88, hc89, hj90, hz91⟩
                refine TO.assign rfl rfl rfl rfl ?_
                refine TO.done ?_
                refine X.seq_normal ?_
                refine T.seq ?_
                obtain ⟨⟨r93, r94⟩, e95, H⟩ := bd_some H
                refine T.regionL (ll := [0, 1, 2, 3, 4, 5, 6, 7]) rfl ?_
                refine TO.loadA rfl rfl rfl rfl TWLCutGreatest.a24 (List.Mem.tail _ (List.Mem.head _)) rfl ?_
                refine TO.move rfl rfl rfl rfl ?_
                refine TO.callX TWLCutGreatest.c44 rfl rfl rfl rfl (fun wc hwc => w_cut_Cap (n0 := r3) (s1 := r82) wc (hwc.rs (f := arcC) (s := 3) (xs := r3.Arcs) (j := j8) (fun _ => rfl) (List.Mem.tail _ (List.Mem.tail _ (List.Mem.head _))) hn9 hc10 hz12) (hwc.rs (f := boolC) (s := 1) (xs := r82) (j := j87) (fun _ => rfl) (List.Mem.head _) hn88 hc89 hz91) e95) ?_
                rintro _ _ ⟨rfl, rfl⟩
                refine TO.move rfl rfl rfl rfl ?_
                refine TO.extract rfl rfl rfl rfl rfl ?_
                refine TO.extract rfl rfl rfl rfl rfl ?_
                refine TO.assign rfl rfl rfl rfl ?_
                refine TO.assign rfl rfl rfl rfl ?_
                refine TO.done ?_
                refine X.seq_normal ?_
                refine T.trim (AllF.cons (t := 2) rfl (AllF.cons (t := 5) rfl (AllF.cons (t := 7) rfl (AllF.cons (t := 9) rfl (AllF.cons (t := 11) rfl (AllF.cons (t := 17) rfl (AllF.cons (t := 18) rfl (AllF.cons (t := 19) rfl AllF.nil)))))))) ?_
                refine T.seq ?_
                refine T.seq ?_
                rcases ite_some H with ⟨g96, H⟩ | ⟨g96, H⟩
                ·
                  refine T.regionL (ll := [0, 1, 2, 3, 4, 5, 6, 7, 8, 9, 10, 11, 12, 13, 14, 15, 16]) rfl ?_
                  refine TO.move rfl rfl rfl rfl ?_
                  refine TO.bin rfl rfl rfl rfl rfl rfl ?_
                  refine TO.move rfl rfl rfl rfl ?_
                  refine TO.decB (t := 106) (b' := true) rfl (decide_eq_true g96) ?_
                  refine TO.shut rfl rfl rfl rfl ?_
                  refine TO.shut rfl rfl rfl rfl ?_
                  refine TO.shut rfl rfl rfl rfl ?_
                  refine TO.pickT rfl rfl rfl rfl rfl ?_
                  refine TO.move rfl rfl rfl rfl ?_
                  refine TO.shut rfl rfl rfl rfl ?_
                  refine TO.shut rfl rfl rfl rfl ?_
                  refine TO.shut rfl rfl rfl rfl ?_
                  refine TO.shut rfl rfl rfl rfl ?_
                  refine TO.shut rfl rfl rfl rfl ?_
                  refine TO.shut rfl rfl rfl rfl ?_
                  refine TO.shut rfl rfl rfl rfl ?_
                  refine TO.shut rfl rfl rfl rfl ?_
                  refine TO.pickT rfl rfl rfl rfl rfl ?_
                  refine TO.done ?_
                  refine X.seq_normal ?_
                  refine T.trim (AllF.cons (t := 7) rfl (AllF.cons (t := 9) rfl (AllF.cons (t := 11) rfl (AllF.cons (t := 17) rfl (AllF.cons (t := 18) rfl (AllF.cons (t := 120) rfl AllF.nil)))))) ?_
                  refine T.condT rfl rfl ?_
                  refine T.seq ?_
                  refine T.regionL (ll := [0]) rfl ?_
                  refine TO.assign rfl rfl rfl rfl ?_
                  refine TO.done ?_
                  refine X.seq_normal ?_
                  refine T.ret ?_
                  refine X.then_ret ?_
                  obtain rfl := ret1 H
                  exact X.ret1 rfl rfl rfl rfl (Res.tmp rfl) Pick.nil ⟨rfl, rfl⟩
                ·
                  rcases ite_some H with ⟨g97, H⟩ | ⟨g97, H⟩
                  ·
                    refine T.regionL (ll := [0, 1, 2, 3, 4, 5, 6, 7, 8, 9, 10, 11, 12, 13, 14, 15, 16]) rfl ?_
                    refine TO.move rfl rfl rfl rfl ?_
                    refine TO.bin rfl rfl rfl rfl rfl rfl ?_
                    refine TO.move rfl rfl rfl rfl ?_
                    refine TO.decB (t := 106) (b' := false) rfl (decide_eq_false g96) ?_
                    refine TO.move rfl rfl rfl rfl ?_
                    refine TO.move rfl rfl rfl rfl ?_
                    refine TO.bin rfl rfl rfl rfl rfl rfl ?_
                    refine TO.pickF rfl rfl rfl rfl rfl ?_
                    refine TO.move rfl rfl rfl rfl ?_
                    refine TO.decB (t := 111) (b' := true) rfl (decide_eq_true g97) ?_
                    refine TO.shut rfl rfl rfl rfl ?_
                    refine TO.shut rfl rfl rfl rfl ?_
                    refine TO.shut rfl rfl rfl rfl ?_
                    refine TO.shut rfl rfl rfl rfl ?_
                    refine TO.shut rfl rfl rfl rfl ?_
                    refine TO.shut rfl rfl rfl rfl ?_
                    refine TO.shut rfl rfl rfl rfl ?_
                    refine TO.shut rfl rfl rfl rfl ?_
                    refine TO.pickT rfl rfl rfl rfl rfl ?_
                    refine TO.done ?_
                    refine X.seq_normal ?_
                    refine T.trim (AllF.cons (t := 7) rfl (AllF.cons (t := 9) rfl (AllF.cons (t := 11) rfl (AllF.cons (t := 17) rfl (AllF.cons (t := 18) rfl (AllF.cons (t := 120) rfl AllF.nil)))))) ?_
                    refine T.condT rfl rfl ?_
                    refine T.seq ?_
                    refine T.regionL (ll := [0]) rfl ?_
                    refine TO.assign rfl rfl rfl rfl ?_
                    refine TO.done ?_
                    refine X.seq_normal ?_
                    refine T.ret ?_
                    refine X.then_ret ?_
                    obtain rfl := ret1 H
                    exact X.ret1 rfl rfl rfl rfl (Res.tmp rfl) Pick.nil ⟨rfl, rfl⟩
                  ·
                    obtain ⟨r98, e99, H⟩ := bd_some H
                    refine T.regionL (ll := [0, 1, 2, 3, 4, 5, 6, 7, 8, 9, 10, 11, 12, 13, 14, 15, 16]) rfl ?_
                    refine TO.move rfl rfl rfl rfl ?_
                    refine TO.bin rfl rfl rfl rfl rfl rfl ?_
                    refine TO.move rfl rfl rfl rfl ?_
                    refine TO.decB (t := 106) (b' := false) rfl (decide_eq_false g96) ?_
                    refine TO.move rfl rfl rfl rfl ?_
                    refine TO.move rfl rfl rfl rfl ?_
                    refine TO.bin rfl rfl rfl rfl rfl rfl ?_
                    refine TO.pickF rfl rfl rfl rfl rfl ?_
                    refine TO.move rfl rfl rfl rfl ?_
                    refine TO.decB (t := 111) (b' := false) rfl (decide_eq_false g97) ?_
                    refine TO.move rfl rfl rfl rfl ?_
                    refine TO.move rfl rfl rfl rfl ?_
                    refine TO.bin rfl rfl rfl rfl rfl rfl ?_
                    refine TO.loadA rfl rfl rfl rfl TWLCutGreatest.a24 (List.Mem.tail _ (List.Mem.head _)) rfl ?_
                    refine TO.move rfl rfl rfl rfl ?_
                    refine TO.move rfl rfl rfl rfl ?_
                    refine TO.callX TWLCutGreatest.c46 rfl rfl rfl rfl (fun wc hwc => w_cut_Tight (n0 := r3) (f1 := r14) (s2 := r82) wc (hwc.rs (f := arcC) (s := 3) (xs := r3.Arcs) (j := j8) (fun _ => rfl) (List.Mem.tail _ (List.Mem.tail _ (List.Mem.head _))) hn9 hc10 hz12) (hwc.rs (f := (intC .i64)) (s := 1) (xs := r14) (j := j20) (fun _ => rfl) (List.Mem.tail _ (List.Mem.tail _ (List.Mem.tail _ (List.Mem.head _)))) hn21 hc22 hz24) (hwc.rs (f := boolC) (s := 1) (xs := r82) (j := j87) (fun _ => rfl) (List.Mem.head _) hn88 hc89 hz91) e99) ?_
                    rintro _ _ ⟨rfl, rfl⟩
                    refine TO.neb rfl rfl rfl rfl rfl TWLCutGreatest.u4 ?_
                    refine TO.pickF rfl rfl rfl rfl rfl ?_
                    refine TO.done ?_
                    refine X.seq_normal ?_
                    refine T.trim (AllF.cons (t := 7) rfl (AllF.cons (t := 9) rfl (AllF.cons (t := 11) rfl (AllF.cons (t := 17) rfl (AllF.cons (t := 18) rfl (AllF.cons (t := 120) rfl AllF.nil)))))) ?_
                    rcases ite_some H with ⟨g100, H⟩ | ⟨g100, H⟩
                    ·
                      refine T.condT rfl g100 ?_
                      refine T.seq ?_
                      refine T.regionL (ll := [0]) rfl ?_
                      refine TO.assign rfl rfl rfl rfl ?_
                      refine TO.done ?_
                      refine X.seq_normal ?_
                      refine T.ret ?_
                      refine X.then_ret ?_
                      obtain rfl := ret1 H
                      exact X.ret1 rfl rfl rfl rfl (Res.tmp rfl) Pick.nil ⟨rfl, rfl⟩
                    ·
                      refine T.condF rfl (Bool.eq_false_iff.2 g100) ?_
                      refine T.skip ?_
                      refine X.seq_normal ?_
                      refine T.seq ?_
                      refine T.seq ?_
                      refine T.regionL (ll := [0, 1, 2]) rfl ?_
                      refine TO.move rfl rfl rfl rfl ?_
                      refine TO.lenX (xs := r82) hn88 rfl rfl rfl rfl rfl TWLCutGreatest.l31 ?_
                      refine TO.move rfl rfl rfl rfl ?_
                      refine TO.done ?_
                      refine X.seq_normal ?_
                      refine T.meetSE1 (fun (u117 : Unit) => m_acequialaw04_CutGreatest_j11 = some r0) (fun (u117 : Unit) => []) (fun (u117 : Unit) => []) ?_ ?_
                      ·
                        refine T.block ?_
                        obtain ⟨o_6, e_6, K_6⟩ := bd_some H
                        refine T.loopE2 (fun (m_6 : Nat) (x101 : Int) => loopM (fun s => m_acequialaw04_CutGreatest_s6 r29 r32 r44 r82 r93 s) m_6 x101 = some o_6) (fun (m_6 : Nat) (x101 : Int) => [(7, .int .i64 r29), (9, .slice (sb ob35) n36 c37), (11, .slice (sb ob47) n48 c49), (17, .slice (sb ob84) n85 c86), (18, .int .i64 r93), (122, .int .i64 (r82.length : Int)), (123, .int .i64 x101)]) (fun (m_6 : Nat) (x101 : Int) => [(ob35, .cells (arr boolC r32 j38).toArray 4 (0, 0)), (ob47, .cells (arr boolC r44 j50).toArray 4 (0, 0)), (ob84, .cells (arr boolC r82 j87).toArray 4 (0, 0))]) (fun (m_6 : Nat) (x101 : Int) => m_6) FUEL 0 e_6 (AllF.cons rfl (AllF.cons rfl (AllF.cons rfl (AllF.cons rfl (AllF.cons rfl (AllF.cons rfl (AllF.cons rfl AllF.nil))))))) (Pick.cons (Take.tail (Take.tail (Take.tail (Take.tail (Take.head _ _))))) (Pick.cons (Take.tail (Take.tail (Take.tail (Take.tail (Take.head _ _))))) (Pick.cons (Take.head _ _) Pick.nil))) ?_
                        rintro m_6 x101 H
                        obtain ⟨n_6, r_6, rfl, H, C_6⟩ := loopM_some H
                        have H : m_acequialaw04_CutGreatest_s6 r29 r32 r44 r82 r93 x101 = some r_6 := H
                        unfold m_acequialaw04_CutGreatest_s6 at H
                        refine T.seq ?_
                        refine T.regionL (ll := [0]) rfl ?_
                        refine TO.bin rfl rfl rfl rfl rfl rfl ?_
                        refine TO.done ?_
                        refine X.seq_normal ?_
                        refine T.seq ?_
                        rcases ite_some H with ⟨g102, H⟩ | ⟨g102, H⟩
                        ·
                          refine T.condPT rfl g102 ?_
                          refine T.skip ?_
                          refine X.seq_normal ?_
                          refine T.seq ?_
                          refine T.block ?_
                          refine T.seq ?_
                          refine T.regionL (ll := [0, 1]) rfl ?_
                          refine TO.move rfl rfl rfl rfl ?_
                          refine TO.assign rfl rfl rfl rfl ?_
                          refine TO.done ?_
                          refine X.seq_normal ?_
                          refine T.seq ?_
                          refine T.regionL (ll := [0, 1, 2, 3, 4, 5, 6, 7, 8, 9, 10, 11, 12, 13, 14, 15, 16, 17, 18, 19, 20, 21, 22, 23, 24, 25, 26, 27, 28]) rfl ?_
                          refine TO.move rfl rfl rfl rfl ?_
                          refine TO.move rfl rfl rfl rfl ?_
                          refine TO.bin rfl rfl rfl rfl rfl rfl ?_
                          refine TO.move rfl rfl rfl rfl ?_
                          refine TO.join [4, 5, 6, 7, 8, 9, 10, 11, 12, 13, 14, 15, 16, 17, 18, 19, 20, 21, 22, 23, 24, 25, 26, 27, 28] [] rfl 154 (fun b114 => m_acequialaw04_CutGreatest_j10 x101 b114 = some r_6) [(7, .int .i64 r29), (9, .slice (sb ob35) n36 c37), (11, .slice (sb ob47) n48 c49), (17, .slice (sb ob84) n85 c86), (18, .int .i64 r93), (122, .int .i64 (r82.length : Int)), (123, .int .i64 x101)] ?_ ?_
                          ·
                            rcases ite_some H with ⟨g103, H⟩ | ⟨g103, H⟩
                            ·
                              obtain ⟨g104, H⟩ := gd_some H
                              refine TO.decB (t := 129) (b' := true) rfl (decide_eq_true g103) ?_
                              refine TO.move rfl rfl rfl rfl ?_
                              refine TO.move rfl rfl rfl rfl ?_
                              refine TO.ixV hz42 hc40 hn39 g104 rfl rfl rfl rfl rfl TWLCutGreatest.l31 TWLCutGreatest.n4 ?_
                              refine TO.ldBV hz42 hc40 hn39 g104 rfl rfl rfl rfl TWLCutGreatest.s4 (List.Mem.head _) ?_
                              refine TO.move rfl rfl rfl rfl ?_
                              refine TO.join [9, 10, 11, 12, 13, 14] [15, 16, 17, 18, 19, 20, 21, 22, 23, 24, 25, 26, 27, 28] rfl 140 (fun b107 => m_acequialaw04_CutGreatest_j7 r44 r82 x101 b107 = some r_6) [(7, .int .i64 r29), (9, .slice (sb ob35) n36 c37), (11, .slice (sb ob47) n48 c49), (17, .slice (sb ob84) n85 c86), (18, .int .i64 r93), (122, .int .i64 (r82.length : Int)), (123, .int .i64 x101), (124, .bool (decide (x101 < (r82.length : Int)))), (125, .int .i64 x101), (20, .int .i64 x101), (126, .int .i64 r93), (127, .int .i64 r29), (128, .bool (decide (r93 = r29))), (129, .bool true), (130, .slice (sb ob35) n36 c37), (131, .int .i64 x101), (133, .bool (r32.getD x101.toNat false))] ?_ ?_
                              ·
                                rcases ite_some H with ⟨g105, H⟩ | ⟨g105, H⟩
                                ·
                                  obtain ⟨g106, H⟩ := gd_some H
                                  refine TO.decB (t := 134) (b' := true) rfl g105 ?_
                                  refine TO.move rfl rfl rfl rfl ?_
                                  refine TO.move rfl rfl rfl rfl ?_
                                  refine TO.ixV hz91 hc89 hn88 g106 rfl rfl rfl rfl rfl TWLCutGreatest.l31 TWLCutGreatest.n4 ?_
                                  refine TO.ldBV hz91 hc89 hn88 g106 rfl rfl rfl rfl TWLCutGreatest.s4 (List.Mem.tail _ (List.Mem.tail _ (List.Mem.head _))) ?_
                                  refine TO.not rfl rfl rfl rfl ?_
                                  refine TO.pickT rfl rfl rfl rfl rfl ?_
                                  refine TO.done ?_
                                  exact X.jn (b := (!(r82.getD x101.toNat false))) H (AllF.cons rfl (AllF.cons rfl (AllF.cons rfl (AllF.cons rfl (AllF.cons rfl (AllF.cons rfl (AllF.cons rfl (AllF.cons rfl (AllF.cons rfl (AllF.cons rfl (AllF.cons rfl (AllF.cons rfl (AllF.cons rfl (AllF.cons rfl (AllF.cons rfl (AllF.cons rfl (AllF.cons rfl (AllF.cons rfl AllF.nil))))))))))))))))))
                                ·
                                  refine TO.decB (t := 134) (b' := false) rfl (Bool.eq_false_iff.2 g105) ?_
                                  refine TO.shut rfl rfl rfl rfl ?_
                                  refine TO.shut rfl rfl rfl rfl ?_
                                  refine TO.shut rfl rfl rfl rfl ?_
                                  refine TO.shut rfl rfl rfl rfl ?_
                                  refine TO.shut rfl rfl rfl rfl ?_
                                  refine TO.pickF rfl rfl rfl rfl rfl ?_
                                  refine TO.done ?_
                                  exact X.jn (b := false) H (AllF.cons rfl (AllF.cons rfl (AllF.cons rfl (AllF.cons rfl (AllF.cons rfl (AllF.cons rfl (AllF.cons rfl (AllF.cons rfl (AllF.cons rfl (AllF.cons rfl (AllF.cons rfl (AllF.cons rfl (AllF.cons rfl (AllF.cons rfl (AllF.cons rfl (AllF.cons rfl (AllF.cons rfl (AllF.cons rfl AllF.nil))))))))))))))))))
                              · rintro b107 H
                                unfold m_acequialaw04_CutGreatest_j7 at H
                                refine TO.move rfl rfl rfl rfl ?_
                                refine TO.join [16, 17, 18, 19, 20, 21, 22, 23, 24, 25, 26, 27] [28] rfl 153 (fun b113 => m_acequialaw04_CutGreatest_j9 x101 b113 = some r_6) [(7, .int .i64 r29), (9, .slice (sb ob35) n36 c37), (11, .slice (sb ob47) n48 c49), (17, .slice (sb ob84) n85 c86), (18, .int .i64 r93), (122, .int .i64 (r82.length : Int)), (123, .int .i64 x101), (124, .bool (decide (x101 < (r82.length : Int)))), (125, .int .i64 x101), (20, .int .i64 x101), (126, .int .i64 r93), (127, .int .i64 r29), (128, .bool (decide (r93 = r29))), (129, .bool true), (130, .slice (sb ob35) n36 c37), (131, .int .i64 x101), (133, .bool (r32.getD x101.toNat false)), (140, .bool b107)] ?_ ?_
                                ·
                                  rcases ite_some H with ⟨g108, H⟩ | ⟨g108, H⟩
                                  ·
                                    refine TO.decB (t := 141) (b' := true) rfl g108 ?_
                                    refine TO.shut rfl rfl rfl rfl ?_
                                    refine TO.shut rfl rfl rfl rfl ?_
                                    refine TO.shut rfl rfl rfl rfl ?_
                                    refine TO.shut rfl rfl rfl rfl ?_
                                    refine TO.shut rfl rfl rfl rfl ?_
                                    refine TO.shutU rfl rfl rfl rfl ?_
                                    refine TO.shutU rfl rfl rfl rfl ?_
                                    refine TO.shutU rfl rfl rfl rfl ?_
                                    refine TO.shutU rfl rfl rfl rfl ?_
                                    refine TO.shutU rfl rfl rfl rfl ?_
                                    refine TO.shut rfl rfl rfl rfl ?_
                                    refine TO.pickT rfl rfl rfl rfl rfl ?_
                                    refine TO.done ?_
                                    exact X.jn (b := true) H (AllF.cons rfl (AllF.cons rfl (AllF.cons rfl (AllF.cons rfl (AllF.cons rfl (AllF.cons rfl (AllF.cons rfl (AllF.cons rfl (AllF.cons rfl (AllF.cons rfl (AllF.cons rfl (AllF.cons rfl (AllF.cons rfl (AllF.cons rfl (AllF.cons rfl (AllF.cons rfl (AllF.cons rfl (AllF.cons rfl (AllF.cons rfl AllF.nil)))))))))))))))))))
                                  ·
                                    obtain ⟨g109, H⟩ := gd_some H
                                    refine TO.decB (t := 141) (b' := false) rfl (Bool.eq_false_iff.2 g108) ?_
                                    refine TO.move rfl rfl rfl rfl ?_
                                    refine TO.move rfl rfl rfl rfl ?_
                                    refine TO.ixV hz91 hc89 hn88 g109 rfl rfl rfl rfl rfl TWLCutGreatest.l31 TWLCutGreatest.n4 ?_
                                    refine TO.ldBV hz91 hc89 hn88 g109 rfl rfl rfl rfl TWLCutGreatest.s4 (List.Mem.tail _ (List.Mem.tail _ (List.Mem.head _))) ?_
                                    refine TO.move rfl rfl rfl rfl ?_
                                    refine TO.join [21, 22, 23, 24, 25, 26] [27] rfl 152 (fun b112 => m_acequialaw04_CutGreatest_j8 x101 b112 = some r_6) [(7, .int .i64 r29), (9, .slice (sb ob35) n36 c37), (11, .slice (sb ob47) n48 c49), (17, .slice (sb ob84) n85 c86), (18, .int .i64 r93), (122, .int .i64 (r82.length : Int)), (123, .int .i64 x101), (124, .bool (decide (x101 < (r82.length : Int)))), (125, .int .i64 x101), (20, .int .i64 x101), (126, .int .i64 r93), (127, .int .i64 r29), (128, .bool (decide (r93 = r29))), (129, .bool true), (130, .slice (sb ob35) n36 c37), (131, .int .i64 x101), (133, .bool (r32.getD x101.toNat false)), (140, .bool b107), (141, .bool false), (142, .slice (sb ob84) n85 c86), (143, .int .i64 x101), (145, .bool (r82.getD x101.toNat false))] ?_ ?_
                                    ·
                                      rcases ite_some H with ⟨g110, H⟩ | ⟨g110, H⟩
                                      ·
                                        obtain ⟨g111, H⟩ := gd_some H
                                        refine TO.decB (t := 146) (b' := true) rfl g110 ?_
                                        refine TO.move rfl rfl rfl rfl ?_
                                        refine TO.move rfl rfl rfl rfl ?_
                                        refine TO.ixV hz54 hc52 hn51 g111 rfl rfl rfl rfl rfl TWLCutGreatest.l31 TWLCutGreatest.n4 ?_
                                        refine TO.ldBV hz54 hc52 hn51 g111 rfl rfl rfl rfl TWLCutGreatest.s4 (List.Mem.tail _ (List.Mem.head _)) ?_
                                        refine TO.not rfl rfl rfl rfl ?_
                                        refine TO.pickT rfl rfl rfl rfl rfl ?_
                                        refine TO.done ?_
                                        exact X.jn (b := (!(r44.getD x101.toNat false))) H (AllF.cons rfl (AllF.cons rfl (AllF.cons rfl (AllF.cons rfl (AllF.cons rfl (AllF.cons rfl (AllF.cons rfl (AllF.cons rfl (AllF.cons rfl (AllF.cons rfl (AllF.cons rfl (AllF.cons rfl (AllF.cons rfl (AllF.cons rfl (AllF.cons rfl (AllF.cons rfl (AllF.cons rfl (AllF.cons rfl (AllF.cons rfl (AllF.cons rfl (AllF.cons rfl (AllF.cons rfl (AllF.cons rfl AllF.nil)))))))))))))))))))))))
                                      ·
                                        refine TO.decB (t := 146) (b' := false) rfl (Bool.eq_false_iff.2 g110) ?_
                                        refine TO.shut rfl rfl rfl rfl ?_
                                        refine TO.shut rfl rfl rfl rfl ?_
                                        refine TO.shut rfl rfl rfl rfl ?_
                                        refine TO.shut rfl rfl rfl rfl ?_
                                        refine TO.shut rfl rfl rfl rfl ?_
                                        refine TO.pickF rfl rfl rfl rfl rfl ?_
                                        refine TO.done ?_
                                        exact X.jn (b := false) H (AllF.cons rfl (AllF.cons rfl (AllF.cons rfl (AllF.cons rfl (AllF.cons rfl (AllF.cons rfl (AllF.cons rfl (AllF.cons rfl (AllF.cons rfl (AllF.cons rfl (AllF.cons rfl (AllF.cons rfl (AllF.cons rfl (AllF.cons rfl (AllF.cons rfl (AllF.cons rfl (AllF.cons rfl (AllF.cons rfl (AllF.cons rfl (AllF.cons rfl (AllF.cons rfl (AllF.cons rfl (AllF.cons rfl AllF.nil)))))))))))))))))))))))
                                    · rintro b112 H
                                      unfold m_acequialaw04_CutGreatest_j8 at H
                                      refine TO.pickF rfl rfl rfl rfl rfl ?_
                                      refine TO.done ?_
                                      exact X.jn (b := b112) H (AllF.cons rfl (AllF.cons rfl (AllF.cons rfl (AllF.cons rfl (AllF.cons rfl (AllF.cons rfl (AllF.cons rfl (AllF.cons rfl (AllF.cons rfl (AllF.cons rfl (AllF.cons rfl (AllF.cons rfl (AllF.cons rfl (AllF.cons rfl (AllF.cons rfl (AllF.cons rfl (AllF.cons rfl (AllF.cons rfl (AllF.cons rfl AllF.nil)))))))))))))))))))
                                · rintro b113 H
                                  unfold m_acequialaw04_CutGreatest_j9 at H
                                  refine TO.pickT rfl rfl rfl rfl rfl ?_
                                  refine TO.done ?_
                                  exact X.jn (b := b113) H (AllF.cons rfl (AllF.cons rfl (AllF.cons rfl (AllF.cons rfl (AllF.cons rfl (AllF.cons rfl (AllF.cons rfl (AllF.cons rfl AllF.nil))))))))
                            ·
                              refine TO.decB (t := 129) (b' := false) rfl (decide_eq_false g103) ?_
                              refine TO.shut rfl rfl rfl rfl ?_
                              refine TO.shut rfl rfl rfl rfl ?_
                              refine TO.shut rfl rfl rfl rfl ?_
                              refine TO.shut rfl rfl rfl rfl ?_
                              refine TO.shut rfl rfl rfl rfl ?_
                              refine TO.shutU rfl rfl rfl rfl ?_
                              refine TO.shutU rfl rfl rfl rfl ?_
                              refine TO.shutU rfl rfl rfl rfl ?_
                              refine TO.shutU rfl rfl rfl rfl ?_
                              refine TO.shutU rfl rfl rfl rfl ?_
                              refine TO.shut rfl rfl rfl rfl ?_
                              refine TO.shut rfl rfl rfl rfl ?_
                              refine TO.shutU rfl rfl rfl rfl ?_
                              refine TO.shutU rfl rfl rfl rfl ?_
                              refine TO.shutU rfl rfl rfl rfl ?_
                              refine TO.shutU rfl rfl rfl rfl ?_
                              refine TO.shutU rfl rfl rfl rfl ?_
                              refine TO.shutU rfl rfl rfl rfl ?_
                              refine TO.shutU rfl rfl rfl rfl ?_
                              refine TO.shutU rfl rfl rfl rfl ?_
                              refine TO.shutU rfl rfl rfl rfl ?_
                              refine TO.shutU rfl rfl rfl rfl ?_
                              refine TO.shutU rfl rfl rfl rfl ?_
                              refine TO.shut rfl rfl rfl rfl ?_
                              refine TO.pickF rfl rfl rfl rfl rfl ?_
                              refine TO.done ?_
                              exact X.jn (b := false) H (AllF.cons rfl (AllF.cons rfl (AllF.cons rfl (AllF.cons rfl (AllF.cons rfl (AllF.cons rfl (AllF.cons rfl (AllF.cons rfl AllF.nil))))))))
                          · rintro b114 H
                            unfold m_acequialaw04_CutGreatest_j10 at H
                            refine TO.done ?_
                            refine X.seq_normal ?_
                            rcases ite_some H with ⟨g115, H⟩ | ⟨g115, H⟩
                            ·
                              refine T.condT rfl g115 ?_
                              refine T.seq ?_
                              refine T.regionL (ll := [0]) rfl ?_
                              refine TO.assign rfl rfl rfl rfl ?_
                              refine TO.done ?_
                              refine X.seq_normal ?_
                              refine T.trim (AllF.cons (t := 4) rfl AllF.nil) ?_
                              refine T.ret ?_
                              refine X.block_ret ?_
                              refine X.then_ret ?_
                              have H := loop_exitE H C_6 ▸ K_6
                              refine X.then_ret ?_
                              refine X.block_ret ?_
                              refine X.then_ret ?_
                              obtain rfl := ret1 H
                              exact X.ret1 rfl rfl rfl rfl (Res.tmp rfl) Pick.nil ⟨rfl, rfl⟩
                            ·
                              refine T.condF rfl (Bool.eq_false_iff.2 g115) ?_
                              refine T.skip ?_
                              refine X.block_normal ?_
                              refine X.seq_normal ?_
                              obtain ⟨g116, H⟩ := gd_some H
                              refine T.regionL (ll := [0, 1]) rfl ?_
                              refine TO.addG g116 rfl rfl rfl rfl rfl ?_
                              refine TO.move rfl rfl rfl rfl ?_
                              refine TO.done ?_
                              have H := loop_next H C_6
                              exact X.againE2 n_6 (x101 + 1) H (Nat.lt_succ_self _) (AllF.cons rfl (AllF.cons rfl (AllF.cons rfl (AllF.cons rfl (AllF.cons rfl (AllF.cons rfl (AllF.cons rfl AllF.nil))))))) (Pick.cons (Take.head _ _) (Pick.cons (Take.head _ _) (Pick.cons (Take.head _ _) Pick.nil)))
                        ·
                          refine T.condPF rfl g102 ?_
                          refine T.exit ?_
                          refine X.then_exit ?_
                          have H := loop_exitE H C_6 ▸ K_6
                          refine X.then_exit ?_
                          refine X.block_here ?_
                          exact X.metE1 () H AllF.nil Pick.nil
                      · rintro u117 H
                        unfold m_acequialaw04_CutGreatest_j11 at H
                        refine T.seq ?_
                        obtain ⟨r118, e119, H⟩ := bd_some H
                        refine T.regionL (ll := [0, 1]) rfl ?_
                        refine TO.callX TWLCutGreatest.c42 rfl rfl rfl rfl (fun wc hwc => w_acequialaw04_awake  wc  e119) ?_
                        rintro _ _ ⟨rfl, rfl⟩
                        refine TO.assign rfl rfl rfl rfl ?_
                        refine TO.done ?_
                        refine X.seq_normal ?_
                        refine T.ret ?_
                        obtain rfl := ret1 H
                        exact X.ret1 rfl rfl rfl rfl (Res.tmp rfl) Pick.nil ⟨rfl, rfl⟩
end Go.Proofs.Ytcdbemdogkmahaa.Ax
