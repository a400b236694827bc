/- What a call does is what its model says: acequialaw04.CutSides. (Printed by sx.py.) -/
import Derived.Test.YtcdbemdogkmahaaAcqMLCutSides
import Derived.Test.YtcdbemdogkmahaaAcqFull
import Derived.Test.YtcdbemdogkmahaaAcqWS4
namespace Go.Proofs.Ytcdbemdogkmahaa.Ax
open Go Go.Acq Go.RowKit Go.Proofs
set_option linter.unusedVariables false
set_option linter.unusedSimpArgs false
set_option maxHeartbeats 8000000
set_option maxRecDepth 20000
theorem TWLCutSides.a24 : aggT Try.prog 24 4 = true := by kernel_rfl
theorem TWLCutSides.b2 : bytesT Try.prog 2 = some 8 := by kernel_rfl
theorem TWLCutSides.b4 : bytesT Try.prog 4 = some 1 := by kernel_rfl
theorem TWLCutSides.c17 : callable Try.prog 17 = true := by kernel_rfl
theorem TWLCutSides.c39 : callable Try.prog 39 = true := by kernel_rfl
theorem TWLCutSides.c40 : callable Try.prog 40 = true := by kernel_rfl
theorem TWLCutSides.c41 : callable Try.prog 41 = true := by kernel_rfl
theorem TWLCutSides.c42 : callable Try.prog 42 = true := by kernel_rfl
theorem TWLCutSides.c43 : callable Try.prog 43 = true := by kernel_rfl
theorem TWLCutSides.c44 : callable Try.prog 44 = true := by kernel_rfl
theorem TWLCutSides.c45 : callable Try.prog 45 = true := by kernel_rfl
theorem TWLCutSides.c46 : callable Try.prog 46 = true := by kernel_rfl
theorem TWLCutSides.f24_0 : fieldT Try.prog 24 0 = some 0 := by kernel_rfl
theorem TWLCutSides.f24_1 : fieldT Try.prog 24 1 = some 1 := by kernel_rfl
theorem TWLCutSides.f24_2 : fieldT Try.prog 24 2 = some 2 := by kernel_rfl
theorem TWLCutSides.f24_3 : fieldT Try.prog 24 3 = some 3 := by kernel_rfl
theorem TWLCutSides.l22 : sliceT Try.prog 22 = some 28 := by kernel_rfl
theorem TWLCutSides.l25 : sliceT Try.prog 25 = some 2 := by kernel_rfl
theorem TWLCutSides.l31 : sliceT Try.prog 31 = some 4 := by kernel_rfl
theorem TWLCutSides.n2 : sizeT Try.prog 2 = some 1 := by kernel_rfl
theorem TWLCutSides.n24 : sizeT Try.prog 24 = some 4 := by kernel_rfl
theorem TWLCutSides.n4 : sizeT Try.prog 4 = some 1 := by kernel_rfl
theorem TWLCutSides.s22 : scalT Try.prog 22 = true := by kernel_rfl
theorem TWLCutSides.s3 : scalT Try.prog 3 = true := by kernel_rfl
theorem TWLCutSides.z2 : zeroT Try.prog 2 = some (.int .i64 0) := by kernel_rfl
theorem TWLCutSides.z4 : zeroT Try.prog 4 = some (.bool false) := by kernel_rfl
theorem TWLCutSidesel25 : ElemT Try.prog 25 2 1 8 (.int .i64 0) := ⟨TWLCutSides.l25, TWLCutSides.n2, TWLCutSides.b2, TWLCutSides.z2, rfl⟩
theorem TWLCutSidesel31 : ElemT Try.prog 31 4 1 1 (.bool false) := ⟨TWLCutSides.l31, TWLCutSides.n4, TWLCutSides.b4, TWLCutSides.z4, rfl⟩
/-- acequia/acequialaw04.CutSides -/
theorem w_acequialaw04_CutSides {n0 : Net} {s1 : List Bool} {which2 : Int} {n0_Arcs_b : Option Addr} {n0_Arcs_n : Nat} {n0_Arcs_c : Nat} {s1_b : Option Addr} {s1_n : Nat} {s1_c : Nat} (w : World) (h_n0_Arcs : RS w [] arcC 3 n0_Arcs_b n0_Arcs_n n0_Arcs_c n0.Arcs) (h_s1 : RS w [] boolC 1 s1_b s1_n s1_c s1) {r0 : Bool} (H : m_acequialaw04_CutSides n0 s1 which2 = some r0) : Fnc Try.prog 13 #[.agg #[.int .i64 n0.N, .int .i64 n0.S, .int .i64 n0.T, .slice n0_Arcs_b n0_Arcs_n n0_Arcs_c], .slice s1_b s1_n s1_c, .int .u8 which2] w [] (fun v N => v = .bool r0 ∧ N = []) := by
  unfold m_acequialaw04_CutSides at H
  refine Fnc.enter (vs := [.agg #[.int .i64 n0.N, .int .i64 n0.S, .int .i64 n0.T, .slice n0_Arcs_b n0_Arcs_n n0_Arcs_c], .slice s1_b s1_n s1_c, .int .u8 which2]) Try.func13 rfl rfl (Inv.refl w) ?_
  refine T.seq ?_
  refine T.regionL (ll := [0, 1]) rfl ?_
  refine TO.boxA rfl rfl rfl rfl ?_; intro b1
  refine TO.assign rfl rfl rfl rfl ?_
  refine TO.done ?_
  refine X.seq_normal ?_
  refine T.seq ?_
  obtain ⟨r3, e4, H⟩ := bd_some H
  refine T.regionL (ll := [0, 1, 2]) rfl ?_
  refine TO.loadA rfl rfl rfl rfl TWLCutSides.a24 (List.Mem.head _) rfl ?_
  refine TO.callX TWLCutSides.c17 rfl rfl rfl rfl (fun wc hwc => w_acequialow_Some (n0 := n0) (verts1 := 30) (arcs2 := 60) wc (h_n0_Arcs.mono hwc) e4) ?_
  rintro _ _ ⟨ob5, n6, c7, j8, rfl, rfl, hn9, hc10, hj11, hz12⟩
  refine TO.storeA rfl rfl rfl rfl (Take.tail (Take.head _ _)) TWLCutSides.n24 rfl rfl rfl ?_
  refine TO.done ?_
  refine X.seq_normal ?_
  refine T.seq ?_
  obtain ⟨r14, e15, H⟩ := bd_some H
  refine T.regionL (ll := [0, 1, 2, 3]) rfl ?_
  refine TO.loadA rfl rfl rfl rfl TWLCutSides.a24 (List.Mem.head _) rfl ?_
  refine TO.move rfl rfl rfl rfl ?_
  refine TO.callX TWLCutSides.c43 rfl rfl rfl rfl (fun wc hwc => w_acequialaw04_side (n0 := r3) (s1 := s1) wc (hwc.rs (f := arcC) (s := 3) (xs := r3.Arcs) (j := j8) (fun _ => rfl) (List.Mem.tail _ (List.Mem.head _)) hn9 hc10 hz12) (h_s1.mono hwc) e15) ?_
  rintro _ _ ⟨ob16, n17, c18, j19, rfl, rfl, hn20, hc21, hj22, hz23⟩
  refine TO.assign rfl rfl rfl rfl ?_
  refine TO.done ?_
  refine X.seq_normal ?_
  refine T.trim (AllF.cons (t := 2) rfl (AllF.cons (t := 3) rfl (AllF.cons (t := 7) rfl AllF.nil))) ?_
  refine T.seq ?_
  obtain ⟨g25, H⟩ := gd_some H
  refine T.regionL (ll := [0, 1, 2, 3, 4]) rfl ?_
  refine TO.fieldAddr0 rfl rfl rfl rfl TWLCutSides.f24_3 ?_
  refine TO.load1 rfl rfl rfl rfl TWLCutSides.s22 (List.Mem.tail _ (List.Mem.head _)) rfl ?_
  refine TO.lenX (xs := r3.Arcs) hn9 rfl rfl rfl rfl rfl TWLCutSides.l22 ?_
  refine TO.mkI g25 rfl rfl rfl rfl rfl TWLCutSides.l25 TWLCutSides.n2 TWLCutSides.z2 TWLCutSides.b2 rfl ?_; intro b26
  refine TO.assign rfl rfl rfl rfl ?_
  refine TO.done ?_
  refine X.seq_normal ?_
  refine T.seq ?_
  refine T.seq ?_
  obtain ⟨r28, e29, H⟩ := bd_some H
  refine T.regionL (ll := [0, 1, 2, 3]) rfl ?_
  refine TO.loadA rfl rfl rfl rfl TWLCutSides.a24 (List.Mem.tail _ (List.Mem.tail _ (List.Mem.head _))) rfl ?_
  refine TO.move rfl rfl rfl rfl ?_
  refine TO.callX TWLCutSides.c41 rfl rfl rfl rfl (fun wc hwc => w_cut_Right (n0 := r3) (s1 := r14) wc (hwc.rs (f := arcC) (s := 3) (xs := r3.Arcs) (j := j8) (fun _ => rfl) (List.Mem.tail _ (List.Mem.tail _ (List.Mem.tail _ (List.Mem.head _)))) hn9 hc10 hz12) (hwc.rs (f := boolC) (s := 1) (xs := r14) (j := j19) (fun _ => rfl) (List.Mem.tail _ (List.Mem.head _)) hn20 hc21 hz23) e29) ?_
  rintro _ _ ⟨rfl, rfl⟩
  refine TO.not rfl rfl rfl rfl ?_
  refine TO.done ?_
  refine X.seq_normal ?_
  rcases ite_some H with ⟨g30, H⟩ | ⟨g30, H⟩
  ·
    refine T.condT rfl g30 ?_
    refine T.seq ?_
    refine T.regionL (ll := [0]) rfl ?_
    refine TO.assign rfl rfl rfl rfl ?_
    refine TO.done ?_
    refine X.seq_normal ?_
    refine T.trim (AllF.cons (t := 6) rfl AllF.nil) ?_
    refine T.ret ?_
    refine X.then_ret ?_
    obtain rfl := ret1 H
    exact X.ret1 rfl rfl rfl rfl (Res.tmp rfl) Pick.nil ⟨rfl, rfl⟩
  ·
    refine T.condF rfl (Bool.eq_false_iff.2 g30) ?_
    refine T.skip ?_
    refine X.seq_normal ?_
    refine T.trim (AllF.cons (t := 2) rfl (AllF.cons (t := 3) rfl (AllF.cons (t := 7) rfl (AllF.cons (t := 8) rfl AllF.nil)))) ?_
    refine T.seq ?_
    refine T.seq ?_
    refine T.regionL (ll := [0, 1]) rfl ?_
    refine TO.move rfl rfl rfl rfl ?_
    refine TO.rem rfl rfl rfl rfl rfl (by decide) ?_
    refine TO.done ?_
    refine X.seq_normal ?_
    refine T.meetSE5 (fun (c48 : List Bool) (n49 : Nat) (c50 : Nat) (ob51 : Option Nat) (j52 : List Value) => m_acequialaw04_CutSides_j1 r3 c48 = some r0 ∧ c48.length = n49 ∧ n49 ≤ c50 ∧ j52.length = (c50 - n49) * 1 ∧ (ob51 = none → c50 = 0)) (fun (c48 : List Bool) (n49 : Nat) (c50 : Nat) (ob51 : Option Nat) (j52 : List Value) => [(3, .pointer (some ⟨b1, 0, none⟩)), (7, .slice (sb ob51) n49 c50), (8, .slice (some ⟨b26, 0, none⟩) ((r3.Arcs.length : Int).toNat) ((r3.Arcs.length : Int).toNat))]) (fun (c48 : List Bool) (n49 : Nat) (c50 : Nat) (ob51 : Option Nat) (j52 : List Value) => [(some b1, .cells #[.int .i64 r3.N, .int .i64 r3.S, .int .i64 r3.T, .slice (sb ob5) n6 c7] 24 (0, 0)), (ob5, .cells (arr arcC r3.Arcs j8).toArray 28 (0, 0)), (ob51, .cells (arr boolC c48 j52).toArray 4 (0, 0)), (some b26, .cells (arr (intC .i64) (List.replicate ((r3.Arcs.length : Int).toNat) (0 : Int)) ([])).toArray 2 (0, 0))]) ?_ ?_
    ·
      refine T.block ?_
      refine T.seq ?_
      refine T.regionL (ll := [0, 1]) rfl ?_
      refine TO.bin rfl rfl rfl rfl rfl rfl ?_
      refine TO.assign rfl rfl rfl rfl ?_
      refine TO.done ?_
      refine X.seq_normal ?_
      rcases ite_some H with ⟨g31, H⟩ | ⟨g31, H⟩
      ·
        refine T.condPT rfl g31 ?_
        obtain ⟨g32, H⟩ := gd_some H
        obtain ⟨g33, H⟩ := gd_some H
        refine T.regionL (ll := [0, 1, 2, 3, 4, 5]) rfl ?_
        refine TO.move rfl rfl rfl rfl ?_
        refine TO.fieldAddr0 rfl rfl rfl rfl TWLCutSides.f24_0 ?_
        refine TO.load1 rfl rfl rfl rfl TWLCutSides.s3 (List.Mem.tail _ (List.Mem.tail _ (List.Mem.head _))) rfl ?_
        refine TO.subG g32 rfl rfl rfl rfl rfl ?_
        refine TO.slH (xs := r14) hn20 hc21 g33 rfl rfl rfl rfl rfl TWLCutSides.l31 TWLCutSides.n4 ?_
        refine TO.assign rfl rfl rfl rfl ?_
        refine TO.done ?_
        refine X.block_normal ?_
        refine X.recut (f := boolC) (xs := r14) (j := j19) (r3.N - 1).toNat (Take.tail (Take.head _ _)) ?_
        exact X.metE5 (r14.take (r3.N - 1).toNat) ((r3.N - 1).toNat) c18 ob16 ((r14.drop (r3.N - 1).toNat).flatMap boolC ++ j19) ⟨H, (takeLen g33), (takeCap g33 hn20 hc21), (recutJ (s := 1) (fun _ => rfl) g33 hn20 hc21 hj22), hz23⟩ (AllF.cons rfl (AllF.cons rfl (AllF.cons rfl AllF.nil))) (Pick.cons (Take.tail (Take.tail (Take.head _ _))) (Pick.cons (Take.tail (Take.tail (Take.head _ _))) (Pick.cons (Take.head _ _) (Pick.cons (Take.head _ _) Pick.nil))))
      ·
        refine T.condPF rfl g31 ?_
        refine T.seq ?_
        refine T.regionL (ll := [0, 1]) rfl ?_
        refine TO.bin rfl rfl rfl rfl rfl rfl ?_
        refine TO.assign rfl rfl rfl rfl ?_
        refine TO.done ?_
        refine X.seq_normal ?_
        rcases ite_some H with ⟨g34, H⟩ | ⟨g34, H⟩
        ·
          refine T.condPT rfl g34 ?_
          obtain ⟨g37, H⟩ := gd_some H
          refine T.regionL (ll := [0, 1, 2, 3]) rfl ?_
          refine TO.move rfl rfl rfl rfl ?_
          refine TO.buildSliceS [.bool false] [0] rfl rfl rfl rfl TWLCutSides.l31 TWLCutSides.n4 TWLCutSides.z4 rfl rfl (by simp only [setAll, setCells, Value.cells, List.toList_toArray, List.getD_cons_zero, List.getD_cons_succ, List.set_cons_zero, List.set_cons_succ]; rfl) (by kernel_rfl) ?_; intro b35
          refine TO.app (f := boolC) (s := 1) (xs := r14) (ob := ob16) (j := j19) (ys := [false]) (fun _ => rfl) (fun _ => rfl) TWLCutSidesel31 g37 rfl rfl rfl rfl rfl (Take.tail (Take.tail (Take.head _ _))) hn20 hc21 hj22 hz23 (fun wc hwc => (hwc.rs (f := boolC) (s := 1) (xs := [false]) (j := ([])) (fun _ => rfl) (List.Mem.head _) rfl (Nat.le_refl _) someZ)) ?_; intro ob38 c39 j40 hc41 hj42 hz43
          refine TO.assign rfl rfl rfl rfl ?_
          refine TO.done ?_
          refine X.block_normal ?_
          exact X.metE5 (r14 ++ ([false])) (n17 + 1) c39 ob38 j40 ⟨H, (lenApp hn20 rfl), hc41, hj42, hz43⟩ (AllF.cons rfl (AllF.cons rfl (AllF.cons rfl AllF.nil))) (Pick.cons (Take.tail (Take.tail (Take.tail (Take.head _ _)))) (Pick.cons (Take.tail (Take.tail (Take.tail (Take.head _ _)))) (Pick.cons (Take.head _ _) (Pick.cons (Take.tail (Take.head _ _)) Pick.nil))))
        ·
          refine T.condPF rfl g34 ?_
          refine T.seq ?_
          refine T.regionL (ll := [0, 1]) rfl ?_
          refine TO.bin rfl rfl rfl rfl rfl rfl ?_
          refine TO.assign rfl rfl rfl rfl ?_
          refine TO.done ?_
          refine X.seq_normal ?_
          refine T.trim (AllF.cons (t := 3) rfl (AllF.cons (t := 7) rfl (AllF.cons (t := 8) rfl (AllF.cons (t := 48) rfl AllF.nil)))) ?_
          rcases ite_some H with ⟨g45, H⟩ | ⟨g45, H⟩
          ·
            refine T.condPT rfl g45 ?_
            obtain ⟨g46, H⟩ := gd_some H
            refine T.regionL (ll := [0, 1, 2, 3, 4]) rfl ?_
            refine TO.move rfl rfl rfl rfl ?_
            refine TO.fieldAddr0 rfl rfl rfl rfl TWLCutSides.f24_1 ?_
            refine TO.load1 rfl rfl rfl rfl TWLCutSides.s3 (List.Mem.tail _ (List.Mem.tail _ (List.Mem.head _))) rfl ?_
            refine TO.ixV hz23 hc21 hn20 g46 rfl rfl rfl rfl rfl TWLCutSides.l31 TWLCutSides.n4 ?_
            refine TO.stBV hz23 hc21 hn20 g46 rfl rfl rfl rfl (Take.tail (Take.head _ _)) TWLCutSides.n4 ?_
            refine TO.done ?_
            refine X.block_normal ?_
            exact X.metE5 (r14.set r3.S.toNat false) n17 c18 ob16 j19 ⟨H, (List.length_set.trans hn20), hc21, hj22, hz23⟩ (AllF.cons rfl (AllF.cons rfl (AllF.cons rfl AllF.nil))) (Pick.cons (Take.tail (Take.tail (Take.head _ _))) (Pick.cons (Take.tail (Take.tail (Take.head _ _))) (Pick.cons (Take.head _ _) (Pick.cons (Take.head _ _) Pick.nil))))
          ·
            refine T.condPF rfl g45 ?_
            obtain ⟨g47, H⟩ := gd_some H
            refine T.regionL (ll := [0, 1, 2, 3, 4]) rfl ?_
            refine TO.move rfl rfl rfl rfl ?_
            refine TO.fieldAddr0 rfl rfl rfl rfl TWLCutSides.f24_2 ?_
            refine TO.load1 rfl rfl rfl rfl TWLCutSides.s3 (List.Mem.tail _ (List.Mem.tail _ (List.Mem.head _))) rfl ?_
            refine TO.ixV hz23 hc21 hn20 g47 rfl rfl rfl rfl rfl TWLCutSides.l31 TWLCutSides.n4 ?_
            refine TO.stBV hz23 hc21 hn20 g47 rfl rfl rfl rfl (Take.tail (Take.head _ _)) TWLCutSides.n4 ?_
            refine TO.done ?_
            refine X.block_normal ?_
            exact X.metE5 (r14.set r3.T.toNat true) n17 c18 ob16 j19 ⟨H, (List.length_set.trans hn20), hc21, hj22, hz23⟩ (AllF.cons rfl (AllF.cons rfl (AllF.cons rfl AllF.nil))) (Pick.cons (Take.tail (Take.tail (Take.head _ _))) (Pick.cons (Take.tail (Take.tail (Take.head _ _))) (Pick.cons (Take.head _ _) (Pick.cons (Take.head _ _) Pick.nil))))
    · rintro c48 n49 c50 ob51 j52 ⟨H, hn53, hc54, hj55, hz56⟩
      unfold m_acequialaw04_CutSides_j1 at H
      refine T.seq ?_
      obtain ⟨⟨r58, r59⟩, e60, H⟩ := bd_some H
      refine T.regionL (ll := [0, 1, 2, 3, 4, 5, 6, 7]) rfl ?_
      refine TO.loadA rfl rfl rfl rfl TWLCutSides.a24 (List.Mem.head _) rfl ?_
      refine TO.move rfl rfl rfl rfl ?_
      refine TO.callX TWLCutSides.c44 rfl rfl rfl rfl (fun wc hwc => w_cut_Cap (n0 := r3) (s1 := c48) wc (hwc.rs (f := arcC) (s := 3) (xs := r3.Arcs) (j := j8) (fun _ => rfl) (List.Mem.tail _ (List.Mem.head _)) hn9 hc10 hz12) (hwc.rs (f := boolC) (s := 1) (xs := c48) (j := j52) (fun _ => rfl) (List.Mem.tail _ (List.Mem.tail _ (List.Mem.head _))) hn53 hc54 hz56) e60) ?_
      rintro _ _ ⟨rfl, rfl⟩
      refine TO.move rfl rfl rfl rfl ?_
      refine TO.extract rfl rfl rfl rfl rfl ?_
      refine TO.extract rfl rfl rfl rfl rfl ?_
      refine TO.assign rfl rfl rfl rfl ?_
      refine TO.assign rfl rfl rfl rfl ?_
      refine TO.done ?_
      refine X.seq_normal ?_
      refine T.seq ?_
      obtain ⟨⟨r61, r62⟩, e63, H⟩ := bd_some H
      refine T.regionL (ll := [0, 1, 2, 3, 4, 5, 6, 7, 8]) rfl ?_
      refine TO.loadA rfl rfl rfl rfl TWLCutSides.a24 (List.Mem.head _) rfl ?_
      refine TO.move rfl rfl rfl rfl ?_
      refine TO.move rfl rfl rfl rfl ?_
      refine TO.callX TWLCutSides.c45 rfl rfl rfl rfl (fun wc hwc => w_cut_Across (n0 := r3) (f1 := (List.replicate ((r3.Arcs.length : Int).toNat) (0 : Int))) (s2 := c48) wc (hwc.rs (f := arcC) (s := 3) (xs := r3.Arcs) (j := j8) (fun _ => rfl) (List.Mem.tail _ (List.Mem.head _)) hn9 hc10 hz12) (hwc.rs (f := (intC .i64)) (s := 1) (xs := (List.replicate ((r3.Arcs.length : Int).toNat) (0 : Int))) (j := ([])) (fun _ => rfl) (List.Mem.tail _ (List.Mem.tail _ (List.Mem.tail _ (List.Mem.head _)))) List.length_replicate (Nat.le_refl _) someZ) (hwc.rs (f := boolC) (s := 1) (xs := c48) (j := j52) (fun _ => rfl) (List.Mem.tail _ (List.Mem.tail _ (List.Mem.head _))) hn53 hc54 hz56) e63) ?_
      rintro _ _ ⟨rfl, rfl⟩
      refine TO.move rfl rfl rfl rfl ?_
      refine TO.extract rfl rfl rfl rfl rfl ?_
      refine TO.extract rfl rfl rfl rfl rfl ?_
      refine TO.assign rfl rfl rfl rfl ?_
      refine TO.assign rfl rfl rfl rfl ?_
      refine TO.done ?_
      refine X.seq_normal ?_
      refine T.trim (AllF.cons (t := 3) rfl (AllF.cons (t := 7) rfl (AllF.cons (t := 8) rfl (AllF.cons (t := 10) rfl (AllF.cons (t := 12) rfl AllF.nil))))) ?_
      refine T.seq ?_
      refine T.seq ?_
      obtain ⟨r64, e65, H⟩ := bd_some H
      rcases ite_some H with ⟨g66, H⟩ | ⟨g66, H⟩
      ·
        refine T.regionL (ll := [0, 1, 2, 3, 4, 5, 6, 7, 8, 9, 10, 11, 12, 13, 14, 15, 16]) rfl ?_
        refine TO.loadA rfl rfl rfl rfl TWLCutSides.a24 (List.Mem.head _) rfl ?_
        refine TO.move rfl rfl rfl rfl ?_
        refine TO.callX TWLCutSides.c41 rfl rfl rfl rfl (fun wc hwc => w_cut_Right (n0 := r3) (s1 := c48) wc (hwc.rs (f := arcC) (s := 3) (xs := r3.Arcs) (j := j8) (fun _ => rfl) (List.Mem.tail _ (List.Mem.head _)) hn9 hc10 hz12) (hwc.rs (f := boolC) (s := 1) (xs := c48) (j := j52) (fun _ => rfl) (List.Mem.tail _ (List.Mem.tail _ (List.Mem.head _))) hn53 hc54 hz56) e65) ?_
        rintro _ _ ⟨rfl, rfl⟩
        refine TO.move rfl rfl rfl rfl ?_
        refine TO.decB (t := 70) (b' := true) rfl g66 ?_
        refine TO.shut rfl rfl rfl rfl ?_
        refine TO.shut rfl rfl rfl rfl ?_
        refine TO.pickT rfl rfl rfl rfl rfl ?_
        refine TO.move rfl rfl rfl rfl ?_
        refine TO.shut rfl rfl rfl rfl ?_
        refine TO.shut rfl rfl rfl rfl ?_
        refine TO.pickT rfl rfl rfl rfl rfl ?_
        refine TO.move rfl rfl rfl rfl ?_
        refine TO.shut rfl rfl rfl rfl ?_
        refine TO.shut rfl rfl rfl rfl ?_
        refine TO.shut rfl rfl rfl rfl ?_
        refine TO.shut rfl rfl rfl rfl ?_
        refine TO.pickT rfl rfl rfl rfl rfl ?_
        refine TO.done ?_
        refine X.seq_normal ?_
        refine T.trim (AllF.cons (t := 3) rfl (AllF.cons (t := 8) rfl (AllF.cons (t := 83) rfl AllF.nil))) ?_
        refine T.condT rfl rfl ?_
        refine T.seq ?_
        refine T.regionL (ll := [0]) rfl ?_
        refine TO.assign rfl rfl rfl rfl ?_
        refine TO.done ?_
        refine X.seq_normal ?_
        refine T.ret ?_
        refine X.then_ret ?_
        obtain rfl := ret1 H
        exact X.ret1 rfl rfl rfl rfl (Res.tmp rfl) Pick.nil ⟨rfl, rfl⟩
      ·
        rcases ite_some H with ⟨g67, H⟩ | ⟨g67, H⟩
        ·
          refine T.regionL (ll := [0, 1, 2, 3, 4, 5, 6, 7, 8, 9, 10, 11, 12, 13, 14, 15, 16]) rfl ?_
          refine TO.loadA rfl rfl rfl rfl TWLCutSides.a24 (List.Mem.head _) rfl ?_
          refine TO.move rfl rfl rfl rfl ?_
          refine TO.callX TWLCutSides.c41 rfl rfl rfl rfl (fun wc hwc => w_cut_Right (n0 := r3) (s1 := c48) wc (hwc.rs (f := arcC) (s := 3) (xs := r3.Arcs) (j := j8) (fun _ => rfl) (List.Mem.tail _ (List.Mem.head _)) hn9 hc10 hz12) (hwc.rs (f := boolC) (s := 1) (xs := c48) (j := j52) (fun _ => rfl) (List.Mem.tail _ (List.Mem.tail _ (List.Mem.head _))) hn53 hc54 hz56) e65) ?_
          rintro _ _ ⟨rfl, rfl⟩
          refine TO.move rfl rfl rfl rfl ?_
          refine TO.decB (t := 70) (b' := false) rfl (Bool.eq_false_iff.2 g66) ?_
          refine TO.move rfl rfl rfl rfl ?_
          refine TO.bin rfl rfl rfl rfl rfl rfl ?_
          refine TO.pickF rfl rfl rfl rfl rfl ?_
          refine TO.move rfl rfl rfl rfl ?_
          refine TO.decB (t := 74) (b' := true) rfl (decide_eq_true g67) ?_
          refine TO.shut rfl rfl rfl rfl ?_
          refine TO.shut rfl rfl rfl rfl ?_
          refine TO.pickT rfl rfl rfl rfl rfl ?_
          refine TO.move rfl rfl rfl rfl ?_
          refine TO.shut rfl rfl rfl rfl ?_
          refine TO.shut rfl rfl rfl rfl ?_
          refine TO.shut rfl rfl rfl rfl ?_
          refine TO.shut rfl rfl rfl rfl ?_
          refine TO.pickT rfl rfl rfl rfl rfl ?_
          refine TO.done ?_
          refine X.seq_normal ?_
          refine T.trim (AllF.cons (t := 3) rfl (AllF.cons (t := 8) rfl (AllF.cons (t := 83) rfl AllF.nil))) ?_
          refine T.condT rfl rfl ?_
          refine T.seq ?_
          refine T.regionL (ll := [0]) rfl ?_
          refine TO.assign rfl rfl rfl rfl ?_
          refine TO.done ?_
          refine X.seq_normal ?_
          refine T.ret ?_
          refine X.then_ret ?_
          obtain rfl := ret1 H
          exact X.ret1 rfl rfl rfl rfl (Res.tmp rfl) Pick.nil ⟨rfl, rfl⟩
        ·
          rcases ite_some H with ⟨g68, H⟩ | ⟨g68, H⟩
          ·
            refine T.regionL (ll := [0, 1, 2, 3, 4, 5, 6, 7, 8, 9, 10, 11, 12, 13, 14, 15, 16]) rfl ?_
            refine TO.loadA rfl rfl rfl rfl TWLCutSides.a24 (List.Mem.head _) rfl ?_
            refine TO.move rfl rfl rfl rfl ?_
            refine TO.callX TWLCutSides.c41 rfl rfl rfl rfl (fun wc hwc => w_cut_Right (n0 := r3) (s1 := c48) wc (hwc.rs (f := arcC) (s := 3) (xs := r3.Arcs) (j := j8) (fun _ => rfl) (List.Mem.tail _ (List.Mem.head _)) hn9 hc10 hz12) (hwc.rs (f := boolC) (s := 1) (xs := c48) (j := j52) (fun _ => rfl) (List.Mem.tail _ (List.Mem.tail _ (List.Mem.head _))) hn53 hc54 hz56) e65) ?_
            rintro _ _ ⟨rfl, rfl⟩
            refine TO.move rfl rfl rfl rfl ?_
            refine TO.decB (t := 70) (b' := false) rfl (Bool.eq_false_iff.2 g66) ?_
            refine TO.move rfl rfl rfl rfl ?_
            refine TO.bin rfl rfl rfl rfl rfl rfl ?_
            refine TO.pickF rfl rfl rfl rfl rfl ?_
            refine TO.move rfl rfl rfl rfl ?_
            refine TO.decB (t := 74) (b' := false) rfl (decide_eq_false g67) ?_
            refine TO.move rfl rfl rfl rfl ?_
            refine TO.bin rfl rfl rfl rfl rfl rfl ?_
            refine TO.pickF rfl rfl rfl rfl rfl ?_
            refine TO.move rfl rfl rfl rfl ?_
            refine TO.decB (t := 78) (b' := true) rfl (decide_eq_true g68) ?_
            refine TO.shut rfl rfl rfl rfl ?_
            refine TO.shut rfl rfl rfl rfl ?_
            refine TO.shut rfl rfl rfl rfl ?_
            refine TO.shut rfl rfl rfl rfl ?_
            refine TO.pickT rfl rfl rfl rfl rfl ?_
            refine TO.done ?_
            refine X.seq_normal ?_
            refine T.trim (AllF.cons (t := 3) rfl (AllF.cons (t := 8) rfl (AllF.cons (t := 83) rfl AllF.nil))) ?_
            refine T.condT rfl rfl ?_
            refine T.seq ?_
            refine T.regionL (ll := [0]) rfl ?_
            refine TO.assign rfl rfl rfl rfl ?_
            refine TO.done ?_
            refine X.seq_normal ?_
            refine T.ret ?_
            refine X.then_ret ?_
            obtain rfl := ret1 H
            exact X.ret1 rfl rfl rfl rfl (Res.tmp rfl) Pick.nil ⟨rfl, rfl⟩
          ·
            obtain ⟨r69, e70, H⟩ := bd_some H
            refine T.regionL (ll := [0, 1, 2, 3, 4, 5, 6, 7, 8, 9, 10, 11, 12, 13, 14, 15, 16]) rfl ?_
            refine TO.loadA rfl rfl rfl rfl TWLCutSides.a24 (List.Mem.head _) rfl ?_
            refine TO.move rfl rfl rfl rfl ?_
            refine TO.callX TWLCutSides.c41 rfl rfl rfl rfl (fun wc hwc => w_cut_Right (n0 := r3) (s1 := c48) wc (hwc.rs (f := arcC) (s := 3) (xs := r3.Arcs) (j := j8) (fun _ => rfl) (List.Mem.tail _ (List.Mem.head _)) hn9 hc10 hz12) (hwc.rs (f := boolC) (s := 1) (xs := c48) (j := j52) (fun _ => rfl) (List.Mem.tail _ (List.Mem.tail _ (List.Mem.head _))) hn53 hc54 hz56) e65) ?_
            rintro _ _ ⟨rfl, rfl⟩
            refine TO.move rfl rfl rfl rfl ?_
            refine TO.decB (t := 70) (b' := false) rfl (Bool.eq_false_iff.2 g66) ?_
            refine TO.move rfl rfl rfl rfl ?_
            refine TO.bin rfl rfl rfl rfl rfl rfl ?_
            refine TO.pickF rfl rfl rfl rfl rfl ?_
            refine TO.move rfl rfl rfl rfl ?_
            refine TO.decB (t := 74) (b' := false) rfl (decide_eq_false g67) ?_
            refine TO.move rfl rfl rfl rfl ?_
            refine TO.bin rfl rfl rfl rfl rfl rfl ?_
            refine TO.pickF rfl rfl rfl rfl rfl ?_
            refine TO.move rfl rfl rfl rfl ?_
            refine TO.decB (t := 78) (b' := false) rfl (decide_eq_false g68) ?_
            refine TO.loadA rfl rfl rfl rfl TWLCutSides.a24 (List.Mem.head _) rfl ?_
            refine TO.move rfl rfl rfl rfl ?_
            refine TO.move rfl rfl rfl rfl ?_
            refine TO.callX TWLCutSides.c46 rfl rfl rfl rfl (fun wc hwc => w_cut_Tight (n0 := r3) (f1 := (List.replicate ((r3.Arcs.length : Int).toNat) (0 : Int))) (s2 := c48) wc (hwc.rs (f := arcC) (s := 3) (xs := r3.Arcs) (j := j8) (fun _ => rfl) (List.Mem.tail _ (List.Mem.head _)) hn9 hc10 hz12) (hwc.rs (f := (intC .i64)) (s := 1) (xs := (List.replicate ((r3.Arcs.length : Int).toNat) (0 : Int))) (j := ([])) (fun _ => rfl) (List.Mem.tail _ (List.Mem.tail _ (List.Mem.tail _ (List.Mem.head _)))) List.length_replicate (Nat.le_refl _) someZ) (hwc.rs (f := boolC) (s := 1) (xs := c48) (j := j52) (fun _ => rfl) (List.Mem.tail _ (List.Mem.tail _ (List.Mem.head _))) hn53 hc54 hz56) e70) ?_
            rintro _ _ ⟨rfl, rfl⟩
            refine TO.pickF rfl rfl rfl rfl rfl ?_
            refine TO.done ?_
            refine X.seq_normal ?_
            refine T.trim (AllF.cons (t := 3) rfl (AllF.cons (t := 8) rfl (AllF.cons (t := 83) rfl AllF.nil))) ?_
            rcases ite_some H with ⟨g71, H⟩ | ⟨g71, H⟩
            ·
              refine T.condT rfl g71 ?_
              refine T.seq ?_
              refine T.regionL (ll := [0]) rfl ?_
              refine TO.assign rfl rfl rfl rfl ?_
              refine TO.done ?_
              refine X.seq_normal ?_
              refine T.ret ?_
              refine X.then_ret ?_
              obtain rfl := ret1 H
              exact X.ret1 rfl rfl rfl rfl (Res.tmp rfl) Pick.nil ⟨rfl, rfl⟩
            ·
              refine T.condF rfl (Bool.eq_false_iff.2 g71) ?_
              refine T.skip ?_
              refine X.seq_normal ?_
              refine T.seq ?_
              obtain ⟨g74, H⟩ := gd_some H
              obtain ⟨⟨r82, r83⟩, e84, H⟩ := bd_some H
              apply T.drawL [⟨[], false, [], relV _⟩, ⟨[], false, [], relV _⟩, ⟨[], false, [], fun _ v e => ∃ (b72 : Nat), v = .slice (some ⟨b72, 0, none⟩) 1 1 ∧ e = [(some b72, .cells (arr (intC .i64) ([0]) ([])).toArray 2 (0, 0))]⟩, ⟨[1, 2], false, [], fun _ v e => ∃ (ob75 : Option Nat) (c76 : Nat) (j77 : List Value), v = .slice (sb ob75) ((r3.Arcs.length : Int).toNat + 1) c76 ∧ e = [(ob75, .cells (arr (intC .i64) ((List.replicate ((r3.Arcs.length : Int).toNat) (0 : Int)) ++ ([0])) j77).toArray 2 (0, 0))] ∧ ((r3.Arcs.length : Int).toNat + 1) ≤ c76 ∧ j77.length = (c76 - ((r3.Arcs.length : Int).toNat + 1)) * 1 ∧ (ob75 = none → c76 = 0)⟩, ⟨[0, 3], false, [], fun _ v e => ∃ (ob85 : Option Nat) (n86 : Nat) (c87 : Nat) (j88 : List Value), v = .tuple #[.slice (sb ob85) n86 c87, .int .i64 r83] ∧ e = [(ob85, .cells (arr boolC r82 j88).toArray 4 (0, 0))] ∧ r82.length = n86 ∧ n86 ≤ c87 ∧ j88.length = (c87 - n86) * 1 ∧ (ob85 = none → c87 = 0)⟩, ⟨[4], false, [], fun vl v e => v = (vl.getD 0 undef) ∧ e = []⟩, ⟨[4, 5], false, [], fun vl v e => v = (tupAt (vl.getD 1 undef) 0) ∧ e = []⟩, ⟨[4, 5], false, [], relV _⟩, ⟨[4, 5, 6], false, [], fun vl v e => v = (vl.getD 2 undef) ∧ e = []⟩] [85, 86, 87, 88, 89, 84, 90, 91, 13] 9 (HRk [[]]) [[]] [] [(some b1, .cells #[.int .i64 r3.N, .int .i64 r3.S, .int .i64 r3.T, .slice (sb ob5) n6 c7] 24 (0, 0)), (ob5, .cells (arr arcC r3.Arcs j8).toArray 28 (0, 0)), (ob51, .cells (arr boolC c48 j52).toArray 4 (0, 0)), (some b26, .cells (arr (intC .i64) (List.replicate ((r3.Arcs.length : Int).toNat) (0 : Int)) ([])).toArray 2 (0, 0))]
              · exact mixed
              · exact rfl
              · kernel_rfl
              · kernel_rfl
              · kernel_rfl
              · exact rfl
              · exact rfl
              · exact rfl
              · exact rfl
              · exact (by repeat (first | exact Pick.refl _ | exact Pick.nil | apply Pick.none | refine Pick.cons (by repeat (first | exact Take.head _ _ | apply Take.tail)) ?_))
              · refine ⟨?_, ?_, ?_, ?_, ?_, ?_, ?_, ?_, ?_, trivial⟩
                · rintro vs es Es Hx -
                  refine TO.reenv (D := []) rfl ?_
                  refine TO.loadA rfl rfl rfl rfl TWLCutSides.a24 (List.Mem.head _) rfl ?_
                  refine TO.done ?_; exact X.obQ rfl ⟨rfl, rfl⟩ (Pick.refl _) rfl
                · rintro vs es Es Hx -
                  refine TO.reenv (D := []) rfl ?_
                  refine TO.move rfl rfl rfl rfl ?_
                  refine TO.done ?_; exact X.obQ rfl ⟨rfl, rfl⟩ (Pick.refl _) rfl
                · rintro vs es Es Hx -
                  refine TO.reenv (D := []) rfl ?_
                  refine TO.buildSliceS [.int .i64 0] [0] rfl rfl rfl rfl TWLCutSides.l25 TWLCutSides.n2 TWLCutSides.z2 rfl rfl (by simp only [setAll, setCells, Value.cells, List.toList_toArray, List.getD_cons_zero, List.getD_cons_succ, List.set_cons_zero, List.set_cons_succ]; rfl) (by kernel_rfl) ?_; intro b72
                  refine TO.done ?_; exact X.obQ rfl ⟨b72, rfl, rfl⟩ (by repeat (first | exact Pick.refl _ | exact Pick.nil | apply Pick.none | refine Pick.cons (by repeat (first | exact Take.head _ _ | apply Take.tail)) ?_)) rfl
                · rintro vs es Es Hx ⟨⟨h_1, e_1⟩, ⟨b72, h_2, e_2⟩, -⟩
                  refine TO.reenv (D := [(86, vs 1), (87, vs 2)]) rfl ?_; rw [h_1, h_2]
                  refine TO.reheap (H := [(some b1, .cells #[.int .i64 r3.N, .int .i64 r3.S, .int .i64 r3.T, .slice (sb ob5) n6 c7] 24 (0, 0)), (ob5, .cells (arr arcC r3.Arcs j8).toArray 28 (0, 0)), (ob51, .cells (arr boolC c48 j52).toArray 4 (0, 0)), (some b26, .cells (arr (intC .i64) (List.replicate ((r3.Arcs.length : Int).toNat) (0 : Int)) ([])).toArray 2 (0, 0))] ++ ([(some b72, .cells (arr (intC .i64) ([0]) ([])).toArray 2 (0, 0))] ++ Hx)) (by show _ ++ ((es 1 ++ (es 2 ++ ([]))) ++ _) = _; rw [e_1, e_2]; rfl) ?_
                  refine TO.appFull (f := (intC .i64)) (s := 1) (xs := (List.replicate ((r3.Arcs.length : Int).toNat) (0 : Int))) (ob := some b26) (j := ([])) (ys := [0]) (fun _ => rfl) (fun _ => rfl) TWLCutSidesel25 g74 rfl rfl rfl rfl rfl (by decide) (List.Mem.tail _ (List.Mem.tail _ (List.Mem.tail _ (List.Mem.head _)))) List.length_replicate someZ (fun wc hwc => (hwc.rs (f := (intC .i64)) (s := 1) (xs := [0]) (j := ([])) (fun _ => rfl) (List.Mem.tail _ (List.Mem.tail _ (List.Mem.tail _ (List.Mem.tail _ (List.Mem.head _))))) rfl (Nat.le_refl _) someZ)) ?_; intro ob75 c76 j77 hc78 hj79 hz80
                  refine TO.done ?_; exact X.obQ rfl ⟨ob75, c76, j77, rfl, rfl, hc78, hj79, hz80⟩ (by show Pick (_ ++ (_ ++ ((es 1 ++ (es 2 ++ ([]))) ++ _))) _; rw [e_1, e_2]; exact (by repeat (first | exact Pick.refl _ | exact Pick.nil | apply Pick.none | refine Pick.cons (by repeat (first | exact Take.head _ _ | apply Take.tail)) ?_))) (by show [(86, vs 1), (87, vs 2)] = _; rw [h_1, h_2])
                · rintro vs es Es Hx ⟨⟨h_0, e_0⟩, ⟨ob75, c76, j77, h_3, e_3, hc78, hj79, hz80⟩, -⟩
                  refine TO.reenv (D := [(85, vs 0), (88, vs 3)]) rfl ?_; rw [h_0, h_3]
                  refine TO.reheap (H := [(some b1, .cells #[.int .i64 r3.N, .int .i64 r3.S, .int .i64 r3.T, .slice (sb ob5) n6 c7] 24 (0, 0)), (ob5, .cells (arr arcC r3.Arcs j8).toArray 28 (0, 0)), (ob51, .cells (arr boolC c48 j52).toArray 4 (0, 0)), (some b26, .cells (arr (intC .i64) (List.replicate ((r3.Arcs.length : Int).toNat) (0 : Int)) ([])).toArray 2 (0, 0))] ++ ([(ob75, .cells (arr (intC .i64) ((List.replicate ((r3.Arcs.length : Int).toNat) (0 : Int)) ++ ([0])) j77).toArray 2 (0, 0))] ++ Hx)) (by show _ ++ ((es 0 ++ (es 3 ++ ([]))) ++ _) = _; rw [e_0, e_3]; rfl) ?_
                  refine TO.callX TWLCutSides.c39 rfl rfl rfl rfl (fun wc hwc => w_cut_From (n0 := r3) (f1 := ((List.replicate ((r3.Arcs.length : Int).toNat) (0 : Int)) ++ ([0]))) wc (hwc.rs (f := arcC) (s := 3) (xs := r3.Arcs) (j := j8) (fun _ => rfl) (List.Mem.tail _ (List.Mem.head _)) hn9 hc10 hz12) (hwc.rs (f := (intC .i64)) (s := 1) (xs := ((List.replicate ((r3.Arcs.length : Int).toNat) (0 : Int)) ++ ([0]))) (j := j77) (fun _ => rfl) (List.Mem.tail _ (List.Mem.tail _ (List.Mem.tail _ (List.Mem.tail _ (List.Mem.head _))))) (lenApp List.length_replicate rfl) hc78 hz80) e84) ?_
                  rintro _ _ ⟨ob85, n86, c87, j88, rfl, rfl, hn89, hc90, hj91, hz92⟩
                  refine TO.done ?_; exact X.obQ rfl ⟨ob85, n86, c87, j88, rfl, rfl, hn89, hc90, hj91, hz92⟩ (by show Pick (_ ++ (_ ++ ((es 0 ++ (es 3 ++ ([]))) ++ _))) _; rw [e_0, e_3]; exact (by repeat (first | exact Pick.refl _ | exact Pick.nil | apply Pick.none | refine Pick.cons (by repeat (first | exact Take.head _ _ | apply Take.tail)) ?_))) (by show [(85, vs 0), (88, vs 3)] = _; rw [h_0, h_3])
                · rintro vs es Es Hx ⟨⟨ob85, n86, c87, j88, h_4, e_4, hn89, hc90, hj91, hz92⟩, -⟩
                  refine TO.reenv (D := [(89, vs 4)]) rfl ?_; rw [h_4]
                  refine TO.reheap (H := [(some b1, .cells #[.int .i64 r3.N, .int .i64 r3.S, .int .i64 r3.T, .slice (sb ob5) n6 c7] 24 (0, 0)), (ob5, .cells (arr arcC r3.Arcs j8).toArray 28 (0, 0)), (ob51, .cells (arr boolC c48 j52).toArray 4 (0, 0)), (some b26, .cells (arr (intC .i64) (List.replicate ((r3.Arcs.length : Int).toNat) (0 : Int)) ([])).toArray 2 (0, 0))] ++ ([(ob85, .cells (arr boolC r82 j88).toArray 4 (0, 0))] ++ Hx)) (by show _ ++ ((es 4 ++ ([])) ++ _) = _; rw [e_4]; rfl) ?_
                  refine TO.move rfl rfl rfl rfl ?_
                  refine TO.done ?_; exact X.obQ rfl ⟨by show _ = vs 4; rw [h_4] <;> rfl, rfl⟩ (by show Pick (_ ++ (_ ++ ((es 4 ++ ([])) ++ _))) _; rw [e_4]; exact (by repeat (first | exact Pick.refl _ | exact Pick.nil | apply Pick.none | refine Pick.cons (by repeat (first | exact Take.head _ _ | apply Take.tail)) ?_))) (by show [(89, vs 4)] = _; rw [h_4])
                · rintro vs es Es Hx ⟨⟨ob85, n86, c87, j88, h_4, e_4, hn89, hc90, hj91, hz92⟩, ⟨q_5, e_5⟩, -⟩
                  have h_5 : vs 5 = .tuple #[.slice (sb ob85) n86 c87, .int .i64 r83] := by refine Eq.trans q_5 ?_; show vs 4 = _; rw [h_4] <;> rfl
                  refine TO.reenv (D := [(89, vs 4), (84, vs 5)]) rfl ?_; rw [h_4, h_5]
                  refine TO.reheap (H := [(some b1, .cells #[.int .i64 r3.N, .int .i64 r3.S, .int .i64 r3.T, .slice (sb ob5) n6 c7] 24 (0, 0)), (ob5, .cells (arr arcC r3.Arcs j8).toArray 28 (0, 0)), (ob51, .cells (arr boolC c48 j52).toArray 4 (0, 0)), (some b26, .cells (arr (intC .i64) (List.replicate ((r3.Arcs.length : Int).toNat) (0 : Int)) ([])).toArray 2 (0, 0))] ++ ([(ob85, .cells (arr boolC r82 j88).toArray 4 (0, 0))] ++ Hx)) (by show _ ++ ((es 4 ++ (es 5 ++ ([]))) ++ _) = _; rw [e_4, e_5]; rfl) ?_
                  refine TO.extract rfl rfl rfl rfl rfl ?_
                  refine TO.done ?_; exact X.obQ rfl ⟨by show _ = (tupAt (vs 5) 0); rw [h_5] <;> rfl, rfl⟩ (by show Pick (_ ++ (_ ++ ((es 4 ++ (es 5 ++ ([]))) ++ _))) _; rw [e_4, e_5]; exact (by repeat (first | exact Pick.refl _ | exact Pick.nil | apply Pick.none | refine Pick.cons (by repeat (first | exact Take.head _ _ | apply Take.tail)) ?_))) (by show [(89, vs 4), (84, vs 5)] = _; rw [h_4, h_5])
                · rintro vs es Es Hx ⟨⟨ob85, n86, c87, j88, h_4, e_4, hn89, hc90, hj91, hz92⟩, ⟨q_5, e_5⟩, -⟩
                  have h_5 : vs 5 = .tuple #[.slice (sb ob85) n86 c87, .int .i64 r83] := by refine Eq.trans q_5 ?_; show vs 4 = _; rw [h_4] <;> rfl
                  refine TO.reenv (D := [(89, vs 4), (84, vs 5)]) rfl ?_; rw [h_4, h_5]
                  refine TO.reheap (H := [(some b1, .cells #[.int .i64 r3.N, .int .i64 r3.S, .int .i64 r3.T, .slice (sb ob5) n6 c7] 24 (0, 0)), (ob5, .cells (arr arcC r3.Arcs j8).toArray 28 (0, 0)), (ob51, .cells (arr boolC c48 j52).toArray 4 (0, 0)), (some b26, .cells (arr (intC .i64) (List.replicate ((r3.Arcs.length : Int).toNat) (0 : Int)) ([])).toArray 2 (0, 0))] ++ ([(ob85, .cells (arr boolC r82 j88).toArray 4 (0, 0))] ++ Hx)) (by show _ ++ ((es 4 ++ (es 5 ++ ([]))) ++ _) = _; rw [e_4, e_5]; rfl) ?_
                  refine TO.extract rfl rfl rfl rfl rfl ?_
                  refine TO.done ?_; exact X.obQ rfl ⟨rfl, rfl⟩ (by show Pick (_ ++ (_ ++ ((es 4 ++ (es 5 ++ ([]))) ++ _))) _; rw [e_4, e_5]; exact (by repeat (first | exact Pick.refl _ | exact Pick.nil | apply Pick.none | refine Pick.cons (by repeat (first | exact Take.head _ _ | apply Take.tail)) ?_))) (by show [(89, vs 4), (84, vs 5)] = _; rw [h_4, h_5])
                · rintro vs es Es Hx ⟨⟨ob85, n86, c87, j88, h_4, e_4, hn89, hc90, hj91, hz92⟩, ⟨q_5, e_5⟩, ⟨q_6, e_6⟩, -⟩
                  have h_5 : vs 5 = .tuple #[.slice (sb ob85) n86 c87, .int .i64 r83] := by refine Eq.trans q_5 ?_; show vs 4 = _; rw [h_4] <;> rfl
                  have h_6 : vs 6 = .slice (sb ob85) n86 c87 := by refine Eq.trans q_6 ?_; show (tupAt (vs 5) 0) = _; rw [h_5] <;> rfl
                  refine TO.reenv (D := [(89, vs 4), (84, vs 5), (90, vs 6)]) rfl ?_; rw [h_4, h_5, h_6]
                  refine TO.reheap (H := [(some b1, .cells #[.int .i64 r3.N, .int .i64 r3.S, .int .i64 r3.T, .slice (sb ob5) n6 c7] 24 (0, 0)), (ob5, .cells (arr arcC r3.Arcs j8).toArray 28 (0, 0)), (ob51, .cells (arr boolC c48 j52).toArray 4 (0, 0)), (some b26, .cells (arr (intC .i64) (List.replicate ((r3.Arcs.length : Int).toNat) (0 : Int)) ([])).toArray 2 (0, 0))] ++ ([(ob85, .cells (arr boolC r82 j88).toArray 4 (0, 0))] ++ Hx)) (by show _ ++ ((es 4 ++ (es 5 ++ (es 6 ++ ([])))) ++ _) = _; rw [e_4, e_5, e_6]; rfl) ?_
                  refine TO.assign rfl rfl rfl rfl ?_
                  refine TO.done ?_; exact X.obQ rfl ⟨by show _ = vs 6; rw [h_6] <;> rfl, rfl⟩ (by show Pick (_ ++ (_ ++ ((es 4 ++ (es 5 ++ (es 6 ++ ([])))) ++ _))) _; rw [e_4, e_5, e_6]; exact (by repeat (first | exact Pick.refl _ | exact Pick.nil | apply Pick.none | refine Pick.cons (by repeat (first | exact Take.head _ _ | apply Take.tail)) ?_))) (by show [(89, vs 4), (84, vs 5), (90, vs 6)] = _; rw [h_4, h_5, h_6])
              · rintro vs es hb ⟨⟨h_0, e_0⟩, ⟨h_1, e_1⟩, ⟨b72, h_2, e_2⟩, ⟨ob75, c76, j77, h_3, e_3, hc78, hj79, hz80⟩, ⟨ob85, n86, c87, j88, h_4, e_4, hn89, hc90, hj91, hz92⟩, ⟨q_5, e_5⟩, ⟨q_6, e_6⟩, ⟨h_7, e_7⟩, ⟨q_8, e_8⟩, -⟩ hHR
                obtain rfl : hb = [] := hHR
                have h_5 : vs 5 = .tuple #[.slice (sb ob85) n86 c87, .int .i64 r83] := by refine Eq.trans q_5 ?_; show vs 4 = _; rw [h_4] <;> rfl
                have h_6 : vs 6 = .slice (sb ob85) n86 c87 := by refine Eq.trans q_6 ?_; show (tupAt (vs 5) 0) = _; rw [h_5] <;> rfl
                have h_8 : vs 8 = .slice (sb ob85) n86 c87 := by refine Eq.trans q_8 ?_; show vs 6 = _; rw [h_6] <;> rfl
                refine TO.reenv (D := [(85, vs 0), (86, vs 1), (87, vs 2), (88, vs 3), (89, vs 4), (84, vs 5), (90, vs 6), (91, vs 7), (13, vs 8)]) rfl ?_
                refine TO.reheap (H := [(some b1, .cells #[.int .i64 r3.N, .int .i64 r3.S, .int .i64 r3.T, .slice (sb ob5) n6 c7] 24 (0, 0)), (ob5, .cells (arr arcC r3.Arcs j8).toArray 28 (0, 0)), (ob51, .cells (arr boolC c48 j52).toArray 4 (0, 0)), (some b26, .cells (arr (intC .i64) (List.replicate ((r3.Arcs.length : Int).toNat) (0 : Int)) ([])).toArray 2 (0, 0)), (some b72, .cells (arr (intC .i64) ([0]) ([])).toArray 2 (0, 0)), (ob75, .cells (arr (intC .i64) ((List.replicate ((r3.Arcs.length : Int).toNat) (0 : Int)) ++ ([0])) j77).toArray 2 (0, 0)), (ob85, .cells (arr boolC r82 j88).toArray 4 (0, 0))]) (by show _ ++ (_ ++ (es 0 ++ (es 1 ++ (es 2 ++ (es 3 ++ (es 4 ++ (es 5 ++ (es 6 ++ (es 7 ++ (es 8 ++ ([]))))))))))) = _; rw [e_0, e_1, e_2, e_3, e_4, e_5, e_6, e_7, e_8]; rfl) ?_
                rw [h_0, h_1, h_2, h_3, h_4, h_5, h_6, h_7, h_8]
                clear h_8 h_7 h_6 h_5 h_4 h_3 h_2 h_1 h_0 q_5 q_6 q_8 e_0 e_1 e_2 e_3 e_4 e_5 e_6 e_7 e_8
                refine TO.assign rfl rfl rfl rfl ?_
                refine TO.done ?_
                refine X.seq_normal ?_
                refine T.trim (AllF.cons (t := 3) rfl (AllF.cons (t := 8) rfl (AllF.cons (t := 14) rfl AllF.nil))) ?_
                refine T.seq ?_
                obtain ⟨g96, H⟩ := gd_some H
                obtain ⟨⟨r104, r105⟩, e106, H⟩ := bd_some H
                apply T.drawL [⟨[], false, [], relV _⟩, ⟨[], false, [], relV _⟩, ⟨[], false, [], fun _ v e => ∃ (b94 : Nat), v = .slice (some ⟨b94, 0, none⟩) 1 1 ∧ e = [(some b94, .cells (arr (intC .i64) ([0]) ([])).toArray 2 (0, 0))]⟩, ⟨[1, 2], false, [], fun _ v e => ∃ (ob97 : Option Nat) (c98 : Nat) (j99 : List Value), v = .slice (sb ob97) ((r3.Arcs.length : Int).toNat + 1) c98 ∧ e = [(ob97, .cells (arr (intC .i64) ((List.replicate ((r3.Arcs.length : Int).toNat) (0 : Int)) ++ ([0])) j99).toArray 2 (0, 0))] ∧ ((r3.Arcs.length : Int).toNat + 1) ≤ c98 ∧ j99.length = (c98 - ((r3.Arcs.length : Int).toNat + 1)) * 1 ∧ (ob97 = none → c98 = 0)⟩, ⟨[0, 3], false, [], fun _ v e => ∃ (ob107 : Option Nat) (n108 : Nat) (c109 : Nat) (j110 : List Value), v = .tuple #[.slice (sb ob107) n108 c109, .int .i64 r105] ∧ e = [(ob107, .cells (arr boolC r104 j110).toArray 4 (0, 0))] ∧ r104.length = n108 ∧ n108 ≤ c109 ∧ j110.length = (c109 - n108) * 1 ∧ (ob107 = none → c109 = 0)⟩, ⟨[4], false, [], fun vl v e => v = (vl.getD 0 undef) ∧ e = []⟩, ⟨[4, 5], false, [], fun vl v e => v = (tupAt (vl.getD 1 undef) 0) ∧ e = []⟩, ⟨[4, 5], false, [], relV _⟩, ⟨[4, 5, 6], false, [], fun vl v e => v = (vl.getD 2 undef) ∧ e = []⟩] [93, 94, 95, 96, 97, 92, 98, 99, 15] 9 (HRk [[]]) [[]] [] [(some b1, .cells #[.int .i64 r3.N, .int .i64 r3.S, .int .i64 r3.T, .slice (sb ob5) n6 c7] 24 (0, 0)), (ob5, .cells (arr arcC r3.Arcs j8).toArray 28 (0, 0)), (ob51, .cells (arr boolC c48 j52).toArray 4 (0, 0)), (some b26, .cells (arr (intC .i64) (List.replicate ((r3.Arcs.length : Int).toNat) (0 : Int)) ([])).toArray 2 (0, 0)), (some b72, .cells (arr (intC .i64) ([0]) ([])).toArray 2 (0, 0)), (ob75, .cells (arr (intC .i64) ((List.replicate ((r3.Arcs.length : Int).toNat) (0 : Int)) ++ ([0])) j77).toArray 2 (0, 0)), (ob85, .cells (arr boolC r82 j88).toArray 4 (0, 0))]
                · exact mixed
                · exact rfl
                · kernel_rfl
                · kernel_rfl
                · kernel_rfl
                · exact rfl
                · exact rfl
                · exact rfl
                · exact rfl
                · exact (by repeat (first | exact Pick.refl _ | exact Pick.nil | apply Pick.none | refine Pick.cons (by repeat (first | exact Take.head _ _ | apply Take.tail)) ?_))
                · refine ⟨?_, ?_, ?_, ?_, ?_, ?_, ?_, ?_, ?_, trivial⟩
                  · rintro vs es Es Hx -
                    refine TO.reenv (D := []) rfl ?_
                    refine TO.loadA rfl rfl rfl rfl TWLCutSides.a24 (List.Mem.head _) rfl ?_
                    refine TO.done ?_; exact X.obQ rfl ⟨rfl, rfl⟩ (Pick.refl _) rfl
                  · rintro vs es Es Hx -
                    refine TO.reenv (D := []) rfl ?_
                    refine TO.move rfl rfl rfl rfl ?_
                    refine TO.done ?_; exact X.obQ rfl ⟨rfl, rfl⟩ (Pick.refl _) rfl
                  · rintro vs es Es Hx -
                    refine TO.reenv (D := []) rfl ?_
                    refine TO.buildSliceS [.int .i64 0] [0] rfl rfl rfl rfl TWLCutSides.l25 TWLCutSides.n2 TWLCutSides.z2 rfl rfl (by simp only [setAll, setCells, Value.cells, List.toList_toArray, List.getD_cons_zero, List.getD_cons_succ, List.set_cons_zero, List.set_cons_succ]; rfl) (by kernel_rfl) ?_; intro b94
                    refine TO.done ?_; exact X.obQ rfl ⟨b94, rfl, rfl⟩ (by repeat (first | exact Pick.refl _ | exact Pick.nil | apply Pick.none | refine Pick.cons (by repeat (first | exact Take.head _ _ | apply Take.tail)) ?_)) rfl
                  · rintro vs es Es Hx ⟨⟨h_1, e_1⟩, ⟨b94, h_2, e_2⟩, -⟩
                    refine TO.reenv (D := [(94, vs 1), (95, vs 2)]) rfl ?_; rw [h_1, h_2]
                    refine TO.reheap (H := [(some b1, .cells #[.int .i64 r3.N, .int .i64 r3.S, .int .i64 r3.T, .slice (sb ob5) n6 c7] 24 (0, 0)), (ob5, .cells (arr arcC r3.Arcs j8).toArray 28 (0, 0)), (ob51, .cells (arr boolC c48 j52).toArray 4 (0, 0)), (some b26, .cells (arr (intC .i64) (List.replicate ((r3.Arcs.length : Int).toNat) (0 : Int)) ([])).toArray 2 (0, 0)), (some b72, .cells (arr (intC .i64) ([0]) ([])).toArray 2 (0, 0)), (ob75, .cells (arr (intC .i64) ((List.replicate ((r3.Arcs.length : Int).toNat) (0 : Int)) ++ ([0])) j77).toArray 2 (0, 0)), (ob85, .cells (arr boolC r82 j88).toArray 4 (0, 0))] ++ ([(some b94, .cells (arr (intC .i64) ([0]) ([])).toArray 2 (0, 0))] ++ Hx)) (by show _ ++ ((es 1 ++ (es 2 ++ ([]))) ++ _) = _; rw [e_1, e_2]; rfl) ?_
                    refine TO.appFull (f := (intC .i64)) (s := 1) (xs := (List.replicate ((r3.Arcs.length : Int).toNat) (0 : Int))) (ob := some b26) (j := ([])) (ys := [0]) (fun _ => rfl) (fun _ => rfl) TWLCutSidesel25 g96 rfl rfl rfl rfl rfl (by decide) (List.Mem.tail _ (List.Mem.tail _ (List.Mem.tail _ (List.Mem.head _)))) List.length_replicate someZ (fun wc hwc => (hwc.rs (f := (intC .i64)) (s := 1) (xs := [0]) (j := ([])) (fun _ => rfl) (List.Mem.tail _ (List.Mem.tail _ (List.Mem.tail _ (List.Mem.tail _ (List.Mem.tail _ (List.Mem.tail _ (List.Mem.tail _ (List.Mem.head _)))))))) rfl (Nat.le_refl _) someZ)) ?_; intro ob97 c98 j99 hc100 hj101 hz102
                    refine TO.done ?_; exact X.obQ rfl ⟨ob97, c98, j99, rfl, rfl, hc100, hj101, hz102⟩ (by show Pick (_ ++ (_ ++ ((es 1 ++ (es 2 ++ ([]))) ++ _))) _; rw [e_1, e_2]; exact (by repeat (first | exact Pick.refl _ | exact Pick.nil | apply Pick.none | refine Pick.cons (by repeat (first | exact Take.head _ _ | apply Take.tail)) ?_))) (by show [(94, vs 1), (95, vs 2)] = _; rw [h_1, h_2])
                  · rintro vs es Es Hx ⟨⟨h_0, e_0⟩, ⟨ob97, c98, j99, h_3, e_3, hc100, hj101, hz102⟩, -⟩
                    refine TO.reenv (D := [(93, vs 0), (96, vs 3)]) rfl ?_; rw [h_0, h_3]
                    refine TO.reheap (H := [(some b1, .cells #[.int .i64 r3.N, .int .i64 r3.S, .int .i64 r3.T, .slice (sb ob5) n6 c7] 24 (0, 0)), (ob5, .cells (arr arcC r3.Arcs j8).toArray 28 (0, 0)), (ob51, .cells (arr boolC c48 j52).toArray 4 (0, 0)), (some b26, .cells (arr (intC .i64) (List.replicate ((r3.Arcs.length : Int).toNat) (0 : Int)) ([])).toArray 2 (0, 0)), (some b72, .cells (arr (intC .i64) ([0]) ([])).toArray 2 (0, 0)), (ob75, .cells (arr (intC .i64) ((List.replicate ((r3.Arcs.length : Int).toNat) (0 : Int)) ++ ([0])) j77).toArray 2 (0, 0)), (ob85, .cells (arr boolC r82 j88).toArray 4 (0, 0))] ++ ([(ob97, .cells (arr (intC .i64) ((List.replicate ((r3.Arcs.length : Int).toNat) (0 : Int)) ++ ([0])) j99).toArray 2 (0, 0))] ++ Hx)) (by show _ ++ ((es 0 ++ (es 3 ++ ([]))) ++ _) = _; rw [e_0, e_3]; rfl) ?_
                    refine TO.callX TWLCutSides.c40 rfl rfl rfl rfl (fun wc hwc => w_cut_To (n0 := r3) (f1 := ((List.replicate ((r3.Arcs.length : Int).toNat) (0 : Int)) ++ ([0]))) wc (hwc.rs (f := arcC) (s := 3) (xs := r3.Arcs) (j := j8) (fun _ => rfl) (List.Mem.tail _ (List.Mem.head _)) hn9 hc10 hz12) (hwc.rs (f := (intC .i64)) (s := 1) (xs := ((List.replicate ((r3.Arcs.length : Int).toNat) (0 : Int)) ++ ([0]))) (j := j99) (fun _ => rfl) (List.Mem.tail _ (List.Mem.tail _ (List.Mem.tail _ (List.Mem.tail _ (List.Mem.tail _ (List.Mem.tail _ (List.Mem.tail _ (List.Mem.head _)))))))) (lenApp List.length_replicate rfl) hc100 hz102) e106) ?_
                    rintro _ _ ⟨ob107, n108, c109, j110, rfl, rfl, hn111, hc112, hj113, hz114⟩
                    refine TO.done ?_; exact X.obQ rfl ⟨ob107, n108, c109, j110, rfl, rfl, hn111, hc112, hj113, hz114⟩ (by show Pick (_ ++ (_ ++ ((es 0 ++ (es 3 ++ ([]))) ++ _))) _; rw [e_0, e_3]; exact (by repeat (first | exact Pick.refl _ | exact Pick.nil | apply Pick.none | refine Pick.cons (by repeat (first | exact Take.head _ _ | apply Take.tail)) ?_))) (by show [(93, vs 0), (96, vs 3)] = _; rw [h_0, h_3])
                  · rintro vs es Es Hx ⟨⟨ob107, n108, c109, j110, h_4, e_4, hn111, hc112, hj113, hz114⟩, -⟩
                    refine TO.reenv (D := [(97, vs 4)]) rfl ?_; rw [h_4]
                    refine TO.reheap (H := [(some b1, .cells #[.int .i64 r3.N, .int .i64 r3.S, .int .i64 r3.T, .slice (sb ob5) n6 c7] 24 (0, 0)), (ob5, .cells (arr arcC r3.Arcs j8).toArray 28 (0, 0)), (ob51, .cells (arr boolC c48 j52).toArray 4 (0, 0)), (some b26, .cells (arr (intC .i64) (List.replicate ((r3.Arcs.length : Int).toNat) (0 : Int)) ([])).toArray 2 (0, 0)), (some b72, .cells (arr (intC .i64) ([0]) ([])).toArray 2 (0, 0)), (ob75, .cells (arr (intC .i64) ((List.replicate ((r3.Arcs.length : Int).toNat) (0 : Int)) ++ ([0])) j77).toArray 2 (0, 0)), (ob85, .cells (arr boolC r82 j88).toArray 4 (0, 0))] ++ ([(ob107, .cells (arr boolC r104 j110).toArray 4 (0, 0))] ++ Hx)) (by show _ ++ ((es 4 ++ ([])) ++ _) = _; rw [e_4]; rfl) ?_
                    refine TO.move rfl rfl rfl rfl ?_
                    refine TO.done ?_; exact X.obQ rfl ⟨by show _ = vs 4; rw [h_4] <;> rfl, rfl⟩ (by show Pick (_ ++ (_ ++ ((es 4 ++ ([])) ++ _))) _; rw [e_4]; exact (by repeat (first | exact Pick.refl _ | exact Pick.nil | apply Pick.none | refine Pick.cons (by repeat (first | exact Take.head _ _ | apply Take.tail)) ?_))) (by show [(97, vs 4)] = _; rw [h_4])
                  · rintro vs es Es Hx ⟨⟨ob107, n108, c109, j110, h_4, e_4, hn111, hc112, hj113, hz114⟩, ⟨q_5, e_5⟩, -⟩
                    have h_5 : vs 5 = .tuple #[.slice (sb ob107) n108 c109, .int .i64 r105] := by refine Eq.trans q_5 ?_; show vs 4 = _; rw [h_4] <;> rfl
                    refine TO.reenv (D := [(97, vs 4), (92, vs 5)]) rfl ?_; rw [h_4, h_5]
                    refine TO.reheap (H := [(some b1, .cells #[.int .i64 r3.N, .int .i64 r3.S, .int .i64 r3.T, .slice (sb ob5) n6 c7] 24 (0, 0)), (ob5, .cells (arr arcC r3.Arcs j8).toArray 28 (0, 0)), (ob51, .cells (arr boolC c48 j52).toArray 4 (0, 0)), (some b26, .cells (arr (intC .i64) (List.replicate ((r3.Arcs.length : Int).toNat) (0 : Int)) ([])).toArray 2 (0, 0)), (some b72, .cells (arr (intC .i64) ([0]) ([])).toArray 2 (0, 0)), (ob75, .cells (arr (intC .i64) ((List.replicate ((r3.Arcs.length : Int).toNat) (0 : Int)) ++ ([0])) j77).toArray 2 (0, 0)), (ob85, .cells (arr boolC r82 j88).toArray 4 (0, 0))] ++ ([(ob107, .cells (arr boolC r104 j110).toArray 4 (0, 0))] ++ Hx)) (by show _ ++ ((es 4 ++ (es 5 ++ ([]))) ++ _) = _; rw [e_4, e_5]; rfl) ?_
                    refine TO.extract rfl rfl rfl rfl rfl ?_
                    refine TO.done ?_; exact X.obQ rfl ⟨by show _ = (tupAt (vs 5) 0); rw [h_5] <;> rfl, rfl⟩ (by show Pick (_ ++ (_ ++ ((es 4 ++ (es 5 ++ ([]))) ++ _))) _; rw [e_4, e_5]; exact (by repeat (first | exact Pick.refl _ | exact Pick.nil | apply Pick.none | refine Pick.cons (by repeat (first | exact Take.head _ _ | apply Take.tail)) ?_))) (by show [(97, vs 4), (92, vs 5)] = _; rw [h_4, h_5])
                  · rintro vs es Es Hx ⟨⟨ob107, n108, c109, j110, h_4, e_4, hn111, hc112, hj113, hz114⟩, ⟨q_5, e_5⟩, -⟩
                    have h_5 : vs 5 = .tuple #[.slice (sb ob107) n108 c109, .int .i64 r105] := by refine Eq.trans q_5 ?_; show vs 4 = _; rw [h_4] <;> rfl
                    refine TO.reenv (D := [(97, vs 4), (92, vs 5)]) rfl ?_; rw [h_4, h_5]
                    refine TO.reheap (H := [(some b1, .cells #[.int .i64 r3.N, .int .i64 r3.S, .int .i64 r3.T, .slice (sb ob5) n6 c7] 24 (0, 0)), (ob5, .cells (arr arcC r3.Arcs j8).toArray 28 (0, 0)), (ob51, .cells (arr boolC c48 j52).toArray 4 (0, 0)), (some b26, .cells (arr (intC .i64) (List.replicate ((r3.Arcs.length : Int).toNat) (0 : Int)) ([])).toArray 2 (0, 0)), (some b72, .cells (arr (intC .i64) ([0]) ([])).toArray 2 (0, 0)), (ob75, .cells (arr (intC .i64) ((List.replicate ((r3.Arcs.length : Int).toNat) (0 : Int)) ++ ([0])) j77).toArray 2 (0, 0)), (ob85, .cells (arr boolC r82 j88).toArray 4 (0, 0))] ++ ([(ob107, .cells (arr boolC r104 j110).toArray 4 (0, 0))] ++ Hx)) (by show _ ++ ((es 4 ++ (es 5 ++ ([]))) ++ _) = _; rw [e_4, e_5]; rfl) ?_
                    refine TO.extract rfl rfl rfl rfl rfl ?_
                    refine TO.done ?_; exact X.obQ rfl ⟨rfl, rfl⟩ (by show Pick (_ ++ (_ ++ ((es 4 ++ (es 5 ++ ([]))) ++ _))) _; rw [e_4, e_5]; exact (by repeat (first | exact Pick.refl _ | exact Pick.nil | apply Pick.none | refine Pick.cons (by repeat (first | exact Take.head _ _ | apply Take.tail)) ?_))) (by show [(97, vs 4), (92, vs 5)] = _; rw [h_4, h_5])
                  · rintro vs es Es Hx ⟨⟨ob107, n108, c109, j110, h_4, e_4, hn111, hc112, hj113, hz114⟩, ⟨q_5, e_5⟩, ⟨q_6, e_6⟩, -⟩
                    have h_5 : vs 5 = .tuple #[.slice (sb ob107) n108 c109, .int .i64 r105] := by refine Eq.trans q_5 ?_; show vs 4 = _; rw [h_4] <;> rfl
                    have h_6 : vs 6 = .slice (sb ob107) n108 c109 := by refine Eq.trans q_6 ?_; show (tupAt (vs 5) 0) = _; rw [h_5] <;> rfl
                    refine TO.reenv (D := [(97, vs 4), (92, vs 5), (98, vs 6)]) rfl ?_; rw [h_4, h_5, h_6]
                    refine TO.reheap (H := [(some b1, .cells #[.int .i64 r3.N, .int .i64 r3.S, .int .i64 r3.T, .slice (sb ob5) n6 c7] 24 (0, 0)), (ob5, .cells (arr arcC r3.Arcs j8).toArray 28 (0, 0)), (ob51, .cells (arr boolC c48 j52).toArray 4 (0, 0)), (some b26, .cells (arr (intC .i64) (List.replicate ((r3.Arcs.length : Int).toNat) (0 : Int)) ([])).toArray 2 (0, 0)), (some b72, .cells (arr (intC .i64) ([0]) ([])).toArray 2 (0, 0)), (ob75, .cells (arr (intC .i64) ((List.replicate ((r3.Arcs.length : Int).toNat) (0 : Int)) ++ ([0])) j77).toArray 2 (0, 0)), (ob85, .cells (arr boolC r82 j88).toArray 4 (0, 0))] ++ ([(ob107, .cells (arr boolC r104 j110).toArray 4 (0, 0))] ++ Hx)) (by show _ ++ ((es 4 ++ (es 5 ++ (es 6 ++ ([])))) ++ _) = _; rw [e_4, e_5, e_6]; rfl) ?_
                    refine TO.assign rfl rfl rfl rfl ?_
                    refine TO.done ?_; exact X.obQ rfl ⟨by show _ = vs 6; rw [h_6] <;> rfl, rfl⟩ (by show Pick (_ ++ (_ ++ ((es 4 ++ (es 5 ++ (es 6 ++ ([])))) ++ _))) _; rw [e_4, e_5, e_6]; exact (by repeat (first | exact Pick.refl _ | exact Pick.nil | apply Pick.none | refine Pick.cons (by repeat (first | exact Take.head _ _ | apply Take.tail)) ?_))) (by show [(97, vs 4), (92, vs 5), (98, vs 6)] = _; rw [h_4, h_5, h_6])
                · rintro vs es hb ⟨⟨h_0, e_0⟩, ⟨h_1, e_1⟩, ⟨b94, h_2, e_2⟩, ⟨ob97, c98, j99, h_3, e_3, hc100, hj101, hz102⟩, ⟨ob107, n108, c109, j110, h_4, e_4, hn111, hc112, hj113, hz114⟩, ⟨q_5, e_5⟩, ⟨q_6, e_6⟩, ⟨h_7, e_7⟩, ⟨q_8, e_8⟩, -⟩ hHR
                  obtain rfl : hb = [] := hHR
                  have h_5 : vs 5 = .tuple #[.slice (sb ob107) n108 c109, .int .i64 r105] := by refine Eq.trans q_5 ?_; show vs 4 = _; rw [h_4] <;> rfl
                  have h_6 : vs 6 = .slice (sb ob107) n108 c109 := by refine Eq.trans q_6 ?_; show (tupAt (vs 5) 0) = _; rw [h_5] <;> rfl
                  have h_8 : vs 8 = .slice (sb ob107) n108 c109 := by refine Eq.trans q_8 ?_; show vs 6 = _; rw [h_6] <;> rfl
                  refine TO.reenv (D := [(93, vs 0), (94, vs 1), (95, vs 2), (96, vs 3), (97, vs 4), (92, vs 5), (98, vs 6), (99, vs 7), (15, vs 8)]) rfl ?_
                  refine TO.reheap (H := [(some b1, .cells #[.int .i64 r3.N, .int .i64 r3.S, .int .i64 r3.T, .slice (sb ob5) n6 c7] 24 (0, 0)), (ob5, .cells (arr arcC r3.Arcs j8).toArray 28 (0, 0)), (ob51, .cells (arr boolC c48 j52).toArray 4 (0, 0)), (some b26, .cells (arr (intC .i64) (List.replicate ((r3.Arcs.length : Int).toNat) (0 : Int)) ([])).toArray 2 (0, 0)), (some b72, .cells (arr (intC .i64) ([0]) ([])).toArray 2 (0, 0)), (ob75, .cells (arr (intC .i64) ((List.replicate ((r3.Arcs.length : Int).toNat) (0 : Int)) ++ ([0])) j77).toArray 2 (0, 0)), (ob85, .cells (arr boolC r82 j88).toArray 4 (0, 0)), (some b94, .cells (arr (intC .i64) ([0]) ([])).toArray 2 (0, 0)), (ob97, .cells (arr (intC .i64) ((List.replicate ((r3.Arcs.length : Int).toNat) (0 : Int)) ++ ([0])) j99).toArray 2 (0, 0)), (ob107, .cells (arr boolC r104 j110).toArray 4 (0, 0))]) (by show _ ++ (_ ++ (es 0 ++ (es 1 ++ (es 2 ++ (es 3 ++ (es 4 ++ (es 5 ++ (es 6 ++ (es 7 ++ (es 8 ++ ([]))))))))))) = _; rw [e_0, e_1, e_2, e_3, e_4, e_5, e_6, e_7, e_8]; rfl) ?_
                  rw [h_0, h_1, h_2, h_3, h_4, h_5, h_6, h_7, h_8]
                  clear h_8 h_7 h_6 h_5 h_4 h_3 h_2 h_1 h_0 q_5 q_6 q_8 e_0 e_1 e_2 e_3 e_4 e_5 e_6 e_7 e_8
                  refine TO.assign rfl rfl rfl rfl ?_
                  refine TO.done ?_
                  refine X.seq_normal ?_
                  refine T.trim (AllF.cons (t := 14) rfl (AllF.cons (t := 16) rfl AllF.nil)) ?_
                  refine T.seq ?_
                  rcases ite_some H with ⟨g116, H⟩ | ⟨g116, H⟩
                  ·
                    rcases ite_some H with ⟨g117, H⟩ | ⟨g117, H⟩
                    ·
                      obtain ⟨r118, e119, H⟩ := bd_some H
                      refine T.regionL (ll := [0, 1, 2, 3, 4, 5, 6, 7, 8, 9]) rfl ?_
                      refine TO.move rfl rfl rfl rfl ?_
                      refine TO.bin rfl rfl rfl rfl rfl rfl ?_
                      refine TO.move rfl rfl rfl rfl ?_
                      refine TO.decB (t := 102) (b' := true) rfl (decide_eq_true g116) ?_
                      refine TO.move rfl rfl rfl rfl ?_
                      refine TO.bin rfl rfl rfl rfl rfl rfl ?_
                      refine TO.pickT rfl rfl rfl rfl rfl ?_
                      refine TO.move rfl rfl rfl rfl ?_
                      refine TO.decB (t := 106) (b' := true) rfl (decide_eq_true g117) ?_
                      refine TO.callX TWLCutSides.c42 rfl rfl rfl rfl (fun wc hwc => w_acequialaw04_awake  wc  e119) ?_
                      rintro _ _ ⟨rfl, rfl⟩
                      refine TO.pickT rfl rfl rfl rfl rfl ?_
                      refine TO.assign rfl rfl rfl rfl ?_
                      refine TO.done ?_
                      refine X.seq_normal ?_
                      refine T.trim (AllF.cons (t := 6) rfl AllF.nil) ?_
                      refine T.ret ?_
                      obtain rfl := ret1 H
                      exact X.ret1 rfl rfl rfl rfl (Res.tmp rfl) Pick.nil ⟨rfl, rfl⟩
                    ·
                      refine T.regionL (ll := [0, 1, 2, 3, 4, 5, 6, 7, 8, 9]) rfl ?_
                      refine TO.move rfl rfl rfl rfl ?_
                      refine TO.bin rfl rfl rfl rfl rfl rfl ?_
                      refine TO.move rfl rfl rfl rfl ?_
                      refine TO.decB (t := 102) (b' := true) rfl (decide_eq_true g116) ?_
                      refine TO.move rfl rfl rfl rfl ?_
                      refine TO.bin rfl rfl rfl rfl rfl rfl ?_
                      refine TO.pickT rfl rfl rfl rfl rfl ?_
                      refine TO.move rfl rfl rfl rfl ?_
                      refine TO.decB (t := 106) (b' := false) rfl (decide_eq_false g117) ?_
                      refine TO.shut rfl rfl rfl rfl ?_
                      refine TO.pickF rfl rfl rfl rfl rfl ?_
                      refine TO.assign rfl rfl rfl rfl ?_
                      refine TO.done ?_
                      refine X.seq_normal ?_
                      refine T.trim (AllF.cons (t := 6) rfl AllF.nil) ?_
                      refine T.ret ?_
                      obtain rfl := ret1 H
                      exact X.ret1 rfl rfl rfl rfl (Res.tmp rfl) Pick.nil ⟨rfl, rfl⟩
                  ·
                    refine T.regionL (ll := [0, 1, 2, 3, 4, 5, 6, 7, 8, 9]) rfl ?_
                    refine TO.move rfl rfl rfl rfl ?_
                    refine TO.bin rfl rfl rfl rfl rfl rfl ?_
                    refine TO.move rfl rfl rfl rfl ?_
                    refine TO.decB (t := 102) (b' := false) rfl (decide_eq_false g116) ?_
                    refine TO.shut rfl rfl rfl rfl ?_
                    refine TO.shut rfl rfl rfl rfl ?_
                    refine TO.pickF rfl rfl rfl rfl rfl ?_
                    refine TO.move rfl rfl rfl rfl ?_
                    refine TO.shut rfl rfl rfl rfl ?_
                    refine TO.pickF rfl rfl rfl rfl rfl ?_
                    refine TO.assign rfl rfl rfl rfl ?_
                    refine TO.done ?_
                    refine X.seq_normal ?_
                    refine T.trim (AllF.cons (t := 6) rfl AllF.nil) ?_
                    refine T.ret ?_
                    obtain rfl := ret1 H
                    exact X.ret1 rfl rfl rfl rfl (Res.tmp rfl) Pick.nil ⟨rfl, rfl⟩
end Go.Proofs.Ytcdbemdogkmahaa.Ax
