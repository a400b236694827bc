/- What a call does is what its model says: acequialaw04.awake, acequialaw04.caps, acequialaw04.side, cut.Across, cut.And, cut.And$1, cut.Cap, cut.From, cut.From$1, cut.Or, cut.Or$1, cut.Right, cut.Tight, cut.To, cut.To$1, cut.across, cut.across$1, cut.both, cut.has, cut.left, cut.met, cut.met$1. (Printed by sx.py.) -/
import Derived.Test.YtcdbemdogkmahaaAcqMS4
import Derived.Test.YtcdbemdogkmahaaAcqSqR
import Derived.Test.YtcdbemdogkmahaaAcqWS3
namespace Go.Proofs.Ytcdbemdogkmahaa.Ax
open Go Go.Acq Go.RowKit Go.Proofs
set_option linter.unusedVariables false
set_option linter.unusedSimpArgs false
set_option maxHeartbeats 8000000
set_option maxRecDepth 20000
theorem TWS4.a24 : aggT Try.prog 24 4 = true := by kernel_rfl
theorem TWS4.a28 : aggT Try.prog 28 3 = true := by kernel_rfl
theorem TWS4.a33 : aggT Try.prog 33 9 = true := by kernel_rfl
theorem TWS4.b3 : bytesT Try.prog 3 = some 8 := by kernel_rfl
theorem TWS4.b4 : bytesT Try.prog 4 = some 1 := by kernel_rfl
theorem TWS4.c19 : callable Try.prog 19 = true := by kernel_rfl
theorem TWS4.c20 : callable Try.prog 20 = true := by kernel_rfl
theorem TWS4.c28 : callable Try.prog 28 = true := by kernel_rfl
theorem TWS4.c39 : callable Try.prog 39 = true := by kernel_rfl
theorem TWS4.c40 : callable Try.prog 40 = true := by kernel_rfl
theorem TWS4.c41 : callable Try.prog 41 = true := by kernel_rfl
theorem TWS4.c44 : callable Try.prog 44 = true := by kernel_rfl
theorem TWS4.c45 : callable Try.prog 45 = true := by kernel_rfl
theorem TWS4.c46 : callable Try.prog 46 = true := by kernel_rfl
theorem TWS4.c49 : callable Try.prog 49 = true := by kernel_rfl
theorem TWS4.c52 : callable Try.prog 52 = true := by kernel_rfl
theorem TWS4.c56 : callable Try.prog 56 = true := by kernel_rfl
theorem TWS4.c67 : callable Try.prog 67 = true := by kernel_rfl
theorem TWS4.c68 : callable Try.prog 68 = true := by kernel_rfl
theorem TWS4.c69 : callable Try.prog 69 = true := by kernel_rfl
theorem TWS4.c70 : callable Try.prog 70 = true := by kernel_rfl
theorem TWS4.c71 : callable Try.prog 71 = true := by kernel_rfl
theorem TWS4.c72 : callable Try.prog 72 = true := by kernel_rfl
theorem TWS4.c82 : callable Try.prog 82 = true := by kernel_rfl
theorem TWS4.c83 : callable Try.prog 83 = true := by kernel_rfl
theorem TWS4.c84 : callable Try.prog 84 = true := by kernel_rfl
theorem TWS4.f24_0 : fieldT Try.prog 24 0 = some 0 := by kernel_rfl
theorem TWS4.f24_1 : fieldT Try.prog 24 1 = some 1 := by kernel_rfl
theorem TWS4.f24_2 : fieldT Try.prog 24 2 = some 2 := by kernel_rfl
theorem TWS4.f24_3 : fieldT Try.prog 24 3 = some 3 := by kernel_rfl
theorem TWS4.f28_0 : fieldT Try.prog 28 0 = some 0 := by kernel_rfl
theorem TWS4.f28_1 : fieldT Try.prog 28 1 = some 1 := by kernel_rfl
theorem TWS4.f28_2 : fieldT Try.prog 28 2 = some 2 := by kernel_rfl
theorem TWS4.f33_0 : fieldT Try.prog 33 0 = some 0 := by kernel_rfl
theorem TWS4.f33_3 : fieldT Try.prog 33 3 = some 3 := by kernel_rfl
theorem TWS4.f33_4 : fieldT Try.prog 33 4 = some 4 := by kernel_rfl
theorem TWS4.f33_5 : fieldT Try.prog 33 5 = some 5 := by kernel_rfl
theorem TWS4.l22 : sliceT Try.prog 22 = some 28 := by kernel_rfl
theorem TWS4.l25 : sliceT Try.prog 25 = some 2 := by kernel_rfl
theorem TWS4.l30 : sliceT Try.prog 30 = some 3 := by kernel_rfl
theorem TWS4.l31 : sliceT Try.prog 31 = some 4 := by kernel_rfl
theorem TWS4.n2 : sizeT Try.prog 2 = some 1 := by kernel_rfl
theorem TWS4.n24 : sizeT Try.prog 24 = some 4 := by kernel_rfl
theorem TWS4.n25 : sizeT Try.prog 25 = some 1 := by kernel_rfl
theorem TWS4.n28 : sizeT Try.prog 28 = some 3 := by kernel_rfl
theorem TWS4.n3 : sizeT Try.prog 3 = some 1 := by kernel_rfl
theorem TWS4.n30 : sizeT Try.prog 30 = some 1 := by kernel_rfl
theorem TWS4.n31 : sizeT Try.prog 31 = some 1 := by kernel_rfl
theorem TWS4.n33 : sizeT Try.prog 33 = some 9 := by kernel_rfl
theorem TWS4.n4 : sizeT Try.prog 4 = some 1 := by kernel_rfl
theorem TWS4.s2 : scalT Try.prog 2 = true := by kernel_rfl
theorem TWS4.s22 : scalT Try.prog 22 = true := by kernel_rfl
theorem TWS4.s25 : scalT Try.prog 25 = true := by kernel_rfl
theorem TWS4.s3 : scalT Try.prog 3 = true := by kernel_rfl
theorem TWS4.s30 : scalT Try.prog 30 = true := by kernel_rfl
theorem TWS4.s31 : scalT Try.prog 31 = true := by kernel_rfl
theorem TWS4.s4 : scalT Try.prog 4 = true := by kernel_rfl
theorem TWS4.u4 : Try.prog.underlying 4 = some .bool := by kernel_rfl
theorem TWS4.z2 : zeroT Try.prog 2 = some (.int .i64 0) := by kernel_rfl
theorem TWS4.z24 : zeroT Try.prog 24 = some (.agg #[.int .i64 0, .int .i64 0, .int .i64 0, .slice none 0 0]) := by kernel_rfl
theorem TWS4.z25 : zeroT Try.prog 25 = some (.slice none 0 0) := by kernel_rfl
theorem TWS4.z28 : zeroT Try.prog 28 = some (.agg #[.int .i64 0, .int .i64 0, .int .i64 0]) := by kernel_rfl
theorem TWS4.z3 : zeroT Try.prog 3 = some (.int .i64 0) := by kernel_rfl
theorem TWS4.z30 : zeroT Try.prog 30 = some (.slice none 0 0) := by kernel_rfl
theorem TWS4.z31 : zeroT Try.prog 31 = some (.slice none 0 0) := by kernel_rfl
theorem TWS4.z33 : zeroT Try.prog 33 = some (.agg #[.int .i64 0, .int .i64 0, .int .i64 0, .slice none 0 0, .slice none 0 0, .slice none 0 0, .slice none 0 0, .slice none 0 0, .slice none 0 0]) := by kernel_rfl
theorem TWS4.z4 : zeroT Try.prog 4 = some (.bool false) := by kernel_rfl
theorem TWS4el30 : ElemT Try.prog 30 3 1 8 (.int .i64 0) := ⟨TWS4.l30, TWS4.n3, TWS4.b3, TWS4.z3, rfl⟩
/-- acequia/cut.Right -/
theorem w_cut_Right {n0 : Net} {s1 : List Bool} {n0_Arcs_b : Option Addr} {n0_Arcs_n : Nat} {n0_Arcs_c : Nat} {s1_b : Option Addr} {s1_n : Nat} {s1_c : Nat} (w : World) (h_n0_Arcs : RS w [] arcC 3 n0_Arcs_b n0_Arcs_n n0_Arcs_c n0.Arcs) (h_s1 : RS w [] boolC 1 s1_b s1_n s1_c s1) {r0 : Bool} (H : m_cut_Right n0 s1 = some r0) : Fnc Try.prog 41 #[.agg #[.int .i64 n0.N, .int .i64 n0.S, .int .i64 n0.T, .slice n0_Arcs_b n0_Arcs_n n0_Arcs_c], .slice s1_b s1_n s1_c] w [] (fun v N => v = .bool r0 ∧ N = []) := by
  unfold m_cut_Right at H
  refine Fnc.enter (vs := [.agg #[.int .i64 n0.N, .int .i64 n0.S, .int .i64 n0.T, .slice n0_Arcs_b n0_Arcs_n n0_Arcs_c], .slice s1_b s1_n s1_c]) Try.func41 rfl rfl (Inv.refl w) ?_
  refine T.seq ?_
  refine T.regionL (ll := [0, 1]) rfl ?_
  refine TO.boxA rfl rfl rfl rfl ?_; intro b1
  refine TO.assign rfl rfl rfl rfl ?_
  refine TO.done ?_
  refine X.seq_normal ?_
  refine T.seq ?_
  obtain ⟨r3, e4, H⟩ := bd_some H
  rcases ite_some H with ⟨g5, H⟩ | ⟨g5, H⟩
  ·
    rcases ite_some H with ⟨g6, H⟩ | ⟨g6, H⟩
    ·
      obtain ⟨g7, H⟩ := gd_some H
      rcases ite_some H with ⟨g8, H⟩ | ⟨g8, H⟩
      ·
        obtain ⟨g9, H⟩ := gd_some H
        refine T.regionL (ll := [0, 1, 2, 3, 4, 5, 6, 7, 8, 9, 10, 11, 12, 13, 14, 15, 16, 17, 18, 19, 20, 21, 22, 23, 24, 25]) rfl ?_
        refine TO.loadA rfl rfl rfl rfl TWS4.a24 (List.Mem.head _) rfl ?_
        refine TO.callX TWS4.c52 rfl rfl rfl rfl (fun wc hwc => w_net_Check (n0 := n0) wc (h_n0_Arcs.mono hwc) e4) ?_
        rintro _ _ ⟨rfl, rfl⟩
        refine TO.bin rfl rfl rfl rfl rfl rfl ?_
        refine TO.move rfl rfl rfl rfl ?_
        refine TO.decB (t := 8) (b' := true) rfl (decide_eq_true g5) ?_
        refine TO.move rfl rfl rfl rfl ?_
        refine TO.lenX (xs := s1) h_s1.len rfl rfl rfl rfl rfl TWS4.l31 ?_
        refine TO.fieldAddr0 rfl rfl rfl rfl TWS4.f24_0 ?_
        refine TO.load1 rfl rfl rfl rfl TWS4.s3 (List.Mem.head _) rfl ?_
        refine TO.bin rfl rfl rfl rfl rfl rfl ?_
        refine TO.pickT rfl rfl rfl rfl rfl ?_
        refine TO.move rfl rfl rfl rfl ?_
        refine TO.decB (t := 15) (b' := true) rfl (decide_eq_true g6) ?_
        refine TO.move rfl rfl rfl rfl ?_
        refine TO.fieldAddr0 rfl rfl rfl rfl TWS4.f24_1 ?_
        refine TO.load1 rfl rfl rfl rfl TWS4.s3 (List.Mem.head _) rfl ?_
        refine TO.ixR h_s1 g7 rfl rfl rfl rfl rfl TWS4.l31 TWS4.n4 ?_
        refine TO.ldBR h_s1 g7 rfl rfl rfl rfl TWS4.s4 ?_
        refine TO.pickT rfl rfl rfl rfl rfl ?_
        refine TO.move rfl rfl rfl rfl ?_
        refine TO.decB (t := 22) (b' := true) rfl g8 ?_
        refine TO.move rfl rfl rfl rfl ?_
        refine TO.fieldAddr0 rfl rfl rfl rfl TWS4.f24_2 ?_
        refine TO.load1 rfl rfl rfl rfl TWS4.s3 (List.Mem.head _) rfl ?_
        refine TO.ixR h_s1 g9 rfl rfl rfl rfl rfl TWS4.l31 TWS4.n4 ?_
        refine TO.ldBR h_s1 g9 rfl rfl rfl rfl TWS4.s4 ?_
        refine TO.not rfl rfl rfl rfl ?_
        refine TO.pickT rfl rfl rfl rfl rfl ?_
        refine TO.assign rfl rfl rfl rfl ?_
        refine TO.done ?_
        refine X.seq_normal ?_
        refine T.trim (AllF.cons (t := 4) rfl AllF.nil) ?_
        refine T.ret ?_
        obtain rfl := ret1 H
        exact X.ret1 rfl rfl rfl rfl (Res.tmp rfl) Pick.nil ⟨rfl, rfl⟩
      ·
        refine T.regionL (ll := [0, 1, 2, 3, 4, 5, 6, 7, 8, 9, 10, 11, 12, 13, 14, 15, 16, 17, 18, 19, 20, 21, 22, 23, 24, 25]) rfl ?_
        refine TO.loadA rfl rfl rfl rfl TWS4.a24 (List.Mem.head _) rfl ?_
        refine TO.callX TWS4.c52 rfl rfl rfl rfl (fun wc hwc => w_net_Check (n0 := n0) wc (h_n0_Arcs.mono hwc) e4) ?_
        rintro _ _ ⟨rfl, rfl⟩
        refine TO.bin rfl rfl rfl rfl rfl rfl ?_
        refine TO.move rfl rfl rfl rfl ?_
        refine TO.decB (t := 8) (b' := true) rfl (decide_eq_true g5) ?_
        refine TO.move rfl rfl rfl rfl ?_
        refine TO.lenX (xs := s1) h_s1.len rfl rfl rfl rfl rfl TWS4.l31 ?_
        refine TO.fieldAddr0 rfl rfl rfl rfl TWS4.f24_0 ?_
        refine TO.load1 rfl rfl rfl rfl TWS4.s3 (List.Mem.head _) rfl ?_
        refine TO.bin rfl rfl rfl rfl rfl rfl ?_
        refine TO.pickT rfl rfl rfl rfl rfl ?_
        refine TO.move rfl rfl rfl rfl ?_
        refine TO.decB (t := 15) (b' := true) rfl (decide_eq_true g6) ?_
        refine TO.move rfl rfl rfl rfl ?_
        refine TO.fieldAddr0 rfl rfl rfl rfl TWS4.f24_1 ?_
        refine TO.load1 rfl rfl rfl rfl TWS4.s3 (List.Mem.head _) rfl ?_
        refine TO.ixR h_s1 g7 rfl rfl rfl rfl rfl TWS4.l31 TWS4.n4 ?_
        refine TO.ldBR h_s1 g7 rfl rfl rfl rfl TWS4.s4 ?_
        refine TO.pickT rfl rfl rfl rfl rfl ?_
        refine TO.move rfl rfl rfl rfl ?_
        refine TO.decB (t := 22) (b' := false) rfl (Bool.eq_false_iff.2 g8) ?_
        refine TO.shut rfl rfl rfl rfl ?_
        refine TO.shut rfl rfl rfl rfl ?_
        refine TO.shut rfl rfl rfl rfl ?_
        refine TO.shut rfl rfl rfl rfl ?_
        refine TO.shut rfl rfl rfl rfl ?_
        refine TO.shut rfl rfl rfl rfl ?_
        refine TO.pickF rfl rfl rfl rfl rfl ?_
        refine TO.assign rfl rfl rfl rfl ?_
        refine TO.done ?_
        refine X.seq_normal ?_
        refine T.trim (AllF.cons (t := 4) rfl AllF.nil) ?_
        refine T.ret ?_
        obtain rfl := ret1 H
        exact X.ret1 rfl rfl rfl rfl (Res.tmp rfl) Pick.nil ⟨rfl, rfl⟩
    ·
      refine T.regionL (ll := [0, 1, 2, 3, 4, 5, 6, 7, 8, 9, 10, 11, 12, 13, 14, 15, 16, 17, 18, 19, 20, 21, 22, 23, 24, 25]) rfl ?_
      refine TO.loadA rfl rfl rfl rfl TWS4.a24 (List.Mem.head _) rfl ?_
      refine TO.callX TWS4.c52 rfl rfl rfl rfl (fun wc hwc => w_net_Check (n0 := n0) wc (h_n0_Arcs.mono hwc) e4) ?_
      rintro _ _ ⟨rfl, rfl⟩
      refine TO.bin rfl rfl rfl rfl rfl rfl ?_
      refine TO.move rfl rfl rfl rfl ?_
      refine TO.decB (t := 8) (b' := true) rfl (decide_eq_true g5) ?_
      refine TO.move rfl rfl rfl rfl ?_
      refine TO.lenX (xs := s1) h_s1.len rfl rfl rfl rfl rfl TWS4.l31 ?_
      refine TO.fieldAddr0 rfl rfl rfl rfl TWS4.f24_0 ?_
      refine TO.load1 rfl rfl rfl rfl TWS4.s3 (List.Mem.head _) rfl ?_
      refine TO.bin rfl rfl rfl rfl rfl rfl ?_
      refine TO.pickT rfl rfl rfl rfl rfl ?_
      refine TO.move rfl rfl rfl rfl ?_
      refine TO.decB (t := 15) (b' := false) rfl (decide_eq_false g6) ?_
      refine TO.shut rfl rfl rfl rfl ?_
      refine TO.shut rfl rfl rfl rfl ?_
      refine TO.shut rfl rfl rfl rfl ?_
      refine TO.shut rfl rfl rfl rfl ?_
      refine TO.shut rfl rfl rfl rfl ?_
      refine TO.pickF rfl rfl rfl rfl rfl ?_
      refine TO.move rfl rfl rfl rfl ?_
      refine TO.shut rfl rfl rfl rfl ?_
      refine TO.shut rfl rfl rfl rfl ?_
      refine TO.shut rfl rfl rfl rfl ?_
      refine TO.shut rfl rfl rfl rfl ?_
      refine TO.shut rfl rfl rfl rfl ?_
      refine TO.shut rfl rfl rfl rfl ?_
      refine TO.pickF rfl rfl rfl rfl rfl ?_
      refine TO.assign rfl rfl rfl rfl ?_
      refine TO.done ?_
      refine X.seq_normal ?_
      refine T.trim (AllF.cons (t := 4) rfl AllF.nil) ?_
      refine T.ret ?_
      obtain rfl := ret1 H
      exact X.ret1 rfl rfl rfl rfl (Res.tmp rfl) Pick.nil ⟨rfl, rfl⟩
  ·
    refine T.regionL (ll := [0, 1, 2, 3, 4, 5, 6, 7, 8, 9, 10, 11, 12, 13, 14, 15, 16, 17, 18, 19, 20, 21, 22, 23, 24, 25]) rfl ?_
    refine TO.loadA rfl rfl rfl rfl TWS4.a24 (List.Mem.head _) rfl ?_
    refine TO.callX TWS4.c52 rfl rfl rfl rfl (fun wc hwc => w_net_Check (n0 := n0) wc (h_n0_Arcs.mono hwc) e4) ?_
    rintro _ _ ⟨rfl, rfl⟩
    refine TO.bin rfl rfl rfl rfl rfl rfl ?_
    refine TO.move rfl rfl rfl rfl ?_
    refine TO.decB (t := 8) (b' := false) rfl (decide_eq_false g5) ?_
    refine TO.shut rfl rfl rfl rfl ?_
    refine TO.shut rfl rfl rfl rfl ?_
    refine TO.shut rfl rfl rfl rfl ?_
    refine TO.shut rfl rfl rfl rfl ?_
    refine TO.shut rfl rfl rfl rfl ?_
    refine TO.pickF rfl rfl rfl rfl rfl ?_
    refine TO.move rfl rfl rfl rfl ?_
    refine TO.shut rfl rfl rfl rfl ?_
    refine TO.shut rfl rfl rfl rfl ?_
    refine TO.shut rfl rfl rfl rfl ?_
    refine TO.shut rfl rfl rfl rfl ?_
    refine TO.shut rfl rfl rfl rfl ?_
    refine TO.pickF rfl rfl rfl rfl rfl ?_
    refine TO.move rfl rfl rfl rfl ?_
    refine TO.shut rfl rfl rfl rfl ?_
    refine TO.shut rfl rfl rfl rfl ?_
    refine TO.shut rfl rfl rfl rfl ?_
    refine TO.shut rfl rfl rfl rfl ?_
    refine TO.shut rfl rfl rfl rfl ?_
    refine TO.shut rfl rfl rfl rfl ?_
    refine TO.pickF rfl rfl rfl rfl rfl ?_
    refine TO.assign rfl rfl rfl rfl ?_
    refine TO.done ?_
    refine X.seq_normal ?_
    refine T.trim (AllF.cons (t := 4) rfl AllF.nil) ?_
    refine T.ret ?_
    obtain rfl := ret1 H
    exact X.ret1 rfl rfl rfl rfl (Res.tmp rfl) Pick.nil ⟨rfl, rfl⟩
/-- acequia/cut.across -/
theorem w_cut_across {n0 : Net} {s1 : List Bool} {n0_Arcs_b : Option Addr} {n0_Arcs_n : Nat} {n0_Arcs_c : Nat} {s1_b : Option Addr} {s1_n : Nat} {s1_c : Nat} (w : World) (h_n0_Arcs : RS w [] arcC 3 n0_Arcs_b n0_Arcs_n n0_Arcs_c n0.Arcs) (h_s1 : RS w [] boolC 1 s1_b s1_n s1_c s1) (H : m_cut_across n0 s1 = some ()) : Fnc Try.prog 72 #[.agg #[.int .i64 n0.N, .int .i64 n0.S, .int .i64 n0.T, .slice n0_Arcs_b n0_Arcs_n n0_Arcs_c], .slice s1_b s1_n s1_c] w [] (fun v N => ∃ (b_0 : Nat) (b_1 : Nat), v = .func (.func 83) #[] #[.pointer (some ⟨b_0, 0, none⟩), .pointer (some ⟨b_1, 0, none⟩)] ∧ N = [(some b_0, .cells #[.int .i64 n0.N, .int .i64 n0.S, .int .i64 n0.T, .slice n0_Arcs_b n0_Arcs_n n0_Arcs_c] 24 (0, 0)), (some b_1, .cells #[.slice s1_b s1_n s1_c] 31 (0, 0))]) := by
  unfold m_cut_across at H
  refine Fnc.enter (vs := [.agg #[.int .i64 n0.N, .int .i64 n0.S, .int .i64 n0.T, .slice n0_Arcs_b n0_Arcs_n n0_Arcs_c], .slice s1_b s1_n s1_c]) Try.func72 rfl rfl (Inv.refl w) ?_
  refine T.seq ?_
  refine T.regionL (ll := [0, 1, 2]) rfl ?_
  refine TO.boxA rfl rfl rfl rfl ?_; intro b1
  refine TO.box rfl rfl rfl rfl ?_; intro b3
  refine TO.assign rfl rfl rfl rfl ?_
  refine TO.done ?_
  refine X.seq_normal ?_
  refine T.seq ?_
  refine T.regionL (ll := [0, 1]) rfl ?_
  refine TO.makeFunc rfl rfl rfl rfl rfl ?_
  refine TO.assign rfl rfl rfl rfl ?_
  refine TO.done ?_
  refine X.seq_normal ?_
  refine T.ret ?_
  exact X.ret1 rfl rfl rfl rfl (Res.tmp rfl) (Pick.cons (Take.tail (Take.head _ _)) (Pick.cons (Take.head _ _) Pick.nil)) ⟨b1, b3, rfl, rfl⟩
/-- acequia/cut.has -/
theorem w_cut_has {s0 : List Bool} {v1 : Int} {s0_b : Option Addr} {s0_n : Nat} {s0_c : Nat} (w : World) (h_s0 : RS w [] boolC 1 s0_b s0_n s0_c s0) {r0 : Bool} (H : m_cut_has s0 v1 = some r0) : Fnc Try.prog 84 #[.slice s0_b s0_n s0_c, .int .i64 v1] w [] (fun v N => v = .bool r0 ∧ N = []) := by
  unfold m_cut_has at H
  refine Fnc.enter (vs := [.slice s0_b s0_n s0_c, .int .i64 v1]) Try.func84 rfl rfl (Inv.refl w) ?_
  refine T.seq ?_
  refine T.regionL (ll := [0]) rfl ?_
  refine TO.assign rfl rfl rfl rfl ?_
  refine TO.done ?_
  refine X.seq_normal ?_
  refine T.seq ?_
  rcases ite_some H with ⟨g1, H⟩ | ⟨g1, H⟩
  ·
    obtain ⟨g2, H⟩ := gd_some H
    refine T.regionL (ll := [0, 1, 2, 3, 4, 5, 6, 7, 8, 9, 10]) rfl ?_
    refine TO.move rfl rfl rfl rfl ?_
    refine TO.move rfl rfl rfl rfl ?_
    refine TO.lenX (xs := s0) h_s0.len rfl rfl rfl rfl rfl TWS4.l31 ?_
    refine TO.bin rfl rfl rfl rfl rfl rfl ?_
    refine TO.move rfl rfl rfl rfl ?_
    refine TO.decB (t := 9) (b' := true) rfl (decide_eq_true g1) ?_
    refine TO.move rfl rfl rfl rfl ?_
    refine TO.move rfl rfl rfl rfl ?_
    refine TO.ixR h_s0 g2 rfl rfl rfl rfl rfl TWS4.l31 TWS4.n4 ?_
    refine TO.ldBR h_s0 g2 rfl rfl rfl rfl TWS4.s4 ?_
    refine TO.pickT rfl rfl rfl rfl rfl ?_
    refine TO.assign rfl rfl rfl rfl ?_
    refine TO.done ?_
    refine X.seq_normal ?_
    refine T.trim (AllF.cons (t := 4) rfl AllF.nil) ?_
    refine T.ret ?_
    obtain rfl := ret1 H
    exact X.ret1 rfl rfl rfl rfl (Res.tmp rfl) Pick.nil ⟨rfl, rfl⟩
  ·
    refine T.regionL (ll := [0, 1, 2, 3, 4, 5, 6, 7, 8, 9, 10]) rfl ?_
    refine TO.move rfl rfl rfl rfl ?_
    refine TO.move rfl rfl rfl rfl ?_
    refine TO.lenX (xs := s0) h_s0.len rfl rfl rfl rfl rfl TWS4.l31 ?_
    refine TO.bin rfl rfl rfl rfl rfl rfl ?_
    refine TO.move rfl rfl rfl rfl ?_
    refine TO.decB (t := 9) (b' := false) rfl (decide_eq_false g1) ?_
    refine TO.shut rfl rfl rfl rfl ?_
    refine TO.shut rfl rfl rfl rfl ?_
    refine TO.shut rfl rfl rfl rfl ?_
    refine TO.shut rfl rfl rfl rfl ?_
    refine TO.pickF rfl rfl rfl rfl rfl ?_
    refine TO.assign rfl rfl rfl rfl ?_
    refine TO.done ?_
    refine X.seq_normal ?_
    refine T.trim (AllF.cons (t := 4) rfl AllF.nil) ?_
    refine T.ret ?_
    obtain rfl := ret1 H
    exact X.ret1 rfl rfl rfl rfl (Res.tmp rfl) Pick.nil ⟨rfl, rfl⟩
/-- acequia/cut.across$1 -/
theorem w_cut_across_1 {S_ X_ : Type} {yy_ : S_ → (Int × Bool) → Option (S_ ⊕ X_)} {c1 : Net} {c2 : List Bool} {tt_ : S_ ⊕ X_} {c1_k : Nat} {c1_Arcs_b : Option Addr} {c1_Arcs_n : Nat} {c1_Arcs_c : Nat} {c2_k : Nat} {c2_b : Option Addr} {c2_n : Nat} {c2_c : Nat} {J_ : S_ ⊕ X_ → Heap → Prop} {l_ : Nat} {Hs0_ : Heap} (w : World) (hin : Inv w (ids Hs0_) w Hs0_) (hJ0_ : J_ tt_ Hs0_) (hY_ : YC Try.prog l_ (V := Int × Bool) (fun v => [.int .i64 v.1, .bool v.2]) yy_ J_ w (ids Hs0_)) (h_c1_Arcs : RS w (ids Hs0_) arcC 3 c1_Arcs_b c1_Arcs_n c1_Arcs_c c1.Arcs) (h_c1_k : HB w (ids Hs0_) c1_k [.int .i64 c1.N, .int .i64 c1.S, .int .i64 c1.T, .slice c1_Arcs_b c1_Arcs_n c1_Arcs_c]) (h_c2 : RS w (ids Hs0_) boolC 1 c2_b c2_n c2_c c2) (h_c2_k : HB w (ids Hs0_) c2_k [.slice c2_b c2_n c2_c]) {r_t : S_ ⊕ X_} (H : m_cut_across_1 yy_ c1 c2 tt_ = some r_t) : Fnc Try.prog 83 #[.func (.yield l_) #[] #[], .pointer (some ⟨c1_k, 0, none⟩), .pointer (some ⟨c2_k, 0, none⟩)] w (ids Hs0_) (fun v N => v = .tuple #[] ∧ J_ r_t N) := by
  unfold m_cut_across_1 at H
  refine Fnc.enter (vs := [.func (.yield l_) #[] #[], .pointer (some ⟨c1_k, 0, none⟩), .pointer (some ⟨c2_k, 0, none⟩)]) Try.func83 rfl rfl hin ?_
  refine T.seq ?_
  refine T.regionL (ll := [0, 1, 2, 3]) rfl ?_
  refine TO.fieldAddr0 rfl rfl rfl rfl TWS4.f24_3 ?_
  refine TO.ldHB h_c1_k rfl rfl rfl rfl rfl TWS4.s22 ?_
  refine TO.lenX (xs := c1.Arcs) h_c1_Arcs.len rfl rfl rfl rfl rfl TWS4.l22 ?_
  refine TO.move rfl rfl rfl rfl ?_
  refine TO.done ?_
  refine X.seq_normal ?_
  refine T.block ?_
  obtain ⟨o_1, e_1, K_1⟩ := bd_some H
  refine T.loopE4 (fun (m_1 : Nat) (x1 : Int) (Hs2 : Heap) (tt3 : S_ ⊕ X_) => loopM (fun s => m_cut_across_1_s1 yy_ c1 c2 s.1 s.2) m_1 (x1, tt3) = some o_1 ∧ J_ tt3 Hs2) (fun (m_1 : Nat) (x1 : Int) (Hs2 : Heap) (tt3 : S_ ⊕ X_) => [(0, .func (.yield l_) #[] #[]), (2, .pointer (some ⟨c2_k, 0, none⟩)), (8, .slice c1_Arcs_b c1_Arcs_n c1_Arcs_c), (9, .int .i64 (c1.Arcs.length : Int)), (10, .int .i64 x1)]) (fun (m_1 : Nat) (x1 : Int) (Hs2 : Heap) (tt3 : S_ ⊕ X_) => (Hs2)) (fun (m_1 : Nat) (x1 : Int) (Hs2 : Heap) (tt3 : S_ ⊕ X_) => m_1) FUEL 0 Hs0_ tt_ ⟨e_1, hJ0_⟩ (AllF.cons rfl (AllF.cons rfl (AllF.cons rfl (AllF.cons rfl (AllF.cons rfl AllF.nil))))) (Pick.refl _) ?_
  rintro m_1 x1 Hs2 tt3 ⟨H, hJ4⟩
  obtain ⟨n_1, r_1, rfl, H, C_1⟩ := loopM_some H
  have H : m_cut_across_1_s1 yy_ c1 c2 x1 tt3 = some r_1 := H
  unfold m_cut_across_1_s1 at H
  refine T.seq ?_
  refine T.regionL (ll := [0]) rfl ?_
  refine TO.bin rfl rfl rfl rfl rfl rfl ?_
  refine TO.done ?_
  refine X.seq_normal ?_
  refine T.seq ?_
  rcases ite_some H with ⟨g5, H⟩ | ⟨g5, H⟩
  ·
    refine T.condPT rfl g5 ?_
    refine T.skip ?_
    refine X.seq_normal ?_
    refine T.seq ?_
    refine T.block ?_
    refine T.seq ?_
    obtain ⟨g6, H⟩ := gd_some H
    refine T.regionL (ll := [0, 1, 2, 3, 4, 5]) rfl ?_
    refine TO.move rfl rfl rfl rfl ?_
    refine TO.ixR h_c1_Arcs g6 rfl rfl rfl rfl rfl TWS4.l22 TWS4.n28 ?_
    refine TO.ldSR (cs := [.int .i64 ((c1.Arcs.getD x1.toNat default).fr), .int .i64 ((c1.Arcs.getD x1.toNat default).to), .int .i64 ((c1.Arcs.getD x1.toNat default).cap)]) default h_c1_Arcs g6 rfl rfl rfl rfl rfl TWS4.a28 ?_
    refine TO.allocA rfl rfl rfl TWS4.z28 ?_; intro b7
    refine TO.assign rfl rfl rfl rfl ?_
    refine TO.storeA rfl rfl rfl rfl (Take.head _ _) TWS4.n28 rfl rfl rfl ?_
    refine TO.done ?_
    refine X.seq_normal ?_
    refine T.seq ?_
    obtain ⟨r9, e10, H⟩ := bd_some H
    refine T.regionL (ll := [0, 1, 2, 3, 4]) rfl ?_
    refine TO.ldHB h_c2_k rfl rfl rfl rfl rfl TWS4.s31 ?_
    refine TO.fieldAddr0 rfl rfl rfl rfl TWS4.f28_0 ?_
    refine TO.load1 rfl rfl rfl rfl TWS4.s3 (List.Mem.head _) rfl ?_
    refine TO.callX TWS4.c84 rfl rfl rfl rfl (fun wc hwc => w_cut_has (s0 := c2) (v1 := (c1.Arcs.getD x1.toNat default).fr) wc (h_c2.mono hwc) e10) ?_
    rintro _ _ ⟨rfl, rfl⟩
    refine TO.assign rfl rfl rfl rfl ?_
    refine TO.done ?_
    refine X.seq_normal ?_
    refine T.trim (AllF.cons (t := 0) rfl (AllF.cons (t := 2) rfl (AllF.cons (t := 8) rfl (AllF.cons (t := 9) rfl (AllF.cons (t := 10) rfl (AllF.cons (t := 5) rfl (AllF.cons (t := 4) rfl (AllF.cons (t := 6) rfl AllF.nil)))))))) ?_
    refine T.seq ?_
    obtain ⟨r11, e12, H⟩ := bd_some H
    rcases ite_some H with ⟨g13, H⟩ | ⟨g13, H⟩
    ·
      obtain ⟨tt14, e15, H⟩ := bd_some H
      refine T.regionL (ll := [0, 1, 2, 3, 4, 5, 6, 7, 8, 9, 10, 11, 12]) rfl ?_
      refine TO.move rfl rfl rfl rfl ?_
      refine TO.ldHB h_c2_k rfl rfl rfl rfl rfl TWS4.s31 ?_
      refine TO.fieldAddr0 rfl rfl rfl rfl TWS4.f28_1 ?_
      refine TO.load1 rfl rfl rfl rfl TWS4.s3 (List.Mem.head _) rfl ?_
      refine TO.callX TWS4.c84 rfl rfl rfl rfl (fun wc hwc => w_cut_has (s0 := c2) (v1 := (c1.Arcs.getD x1.toNat default).to) wc (h_c2.mono hwc) e12) ?_
      rintro _ _ ⟨rfl, rfl⟩
      refine TO.neb rfl rfl rfl rfl rfl TWS4.u4 ?_
      refine TO.move rfl rfl rfl rfl ?_
      refine TO.decB (t := 25) (b' := true) rfl g13 ?_
      refine TO.move rfl rfl rfl rfl ?_
      refine TO.move rfl rfl rfl rfl ?_
      refine TO.move rfl rfl rfl rfl ?_
      refine TO.yield (Ho := [(some b7, .cells #[.int .i64 ((c1.Arcs.getD x1.toNat default).fr), .int .i64 ((c1.Arcs.getD x1.toNat default).to), .int .i64 ((c1.Arcs.getD x1.toNat default).cap)] 28 (0, 0))]) (v := (x1, r9)) rfl hY_ e15 hJ4 rfl rfl rfl rfl rfl rfl ?_
      intro Hs16 hJ17
      refine TO.reheap (H := ((some b7, .cells #[.int .i64 ((c1.Arcs.getD x1.toNat default).fr), .int .i64 ((c1.Arcs.getD x1.toNat default).to), .int .i64 ((c1.Arcs.getD x1.toNat default).cap)] 28 (0, 0)) :: Hs16)) rfl ?_
      refine TO.not rfl rfl rfl rfl ?_
      refine TO.pickT rfl rfl rfl rfl rfl ?_
      refine TO.done ?_
      refine X.seq_normal ?_
      refine T.trim (AllF.cons (t := 0) rfl (AllF.cons (t := 2) rfl (AllF.cons (t := 8) rfl (AllF.cons (t := 9) rfl (AllF.cons (t := 10) rfl (AllF.cons (t := 26) rfl (AllF.cons (t := 27) rfl (AllF.cons (t := 28) rfl (AllF.cons (t := 29) rfl (AllF.cons (t := 30) rfl (AllF.cons (t := 31) rfl AllF.nil))))))))))) ?_
      rcases ite_some H with ⟨g18, H⟩ | ⟨g18, H⟩
      ·
        refine T.condT rfl g18 ?_
        refine T.ret ?_
        refine X.block_ret ?_
        refine X.then_ret ?_
        have H := loop_exitE H C_1 ▸ K_1
        refine X.then_ret ?_
        refine X.block_ret ?_
        obtain rfl := ret1 H
        exact X.ret0 rfl rfl rfl rfl  (Pick.skip (Pick.refl _)) ⟨rfl, hJ17⟩
      ·
        refine T.condF rfl (Bool.eq_false_iff.2 g18) ?_
        refine T.skip ?_
        refine X.block_normal ?_
        refine X.seq_normal ?_
        obtain ⟨g19, H⟩ := gd_some H
        refine T.regionL (ll := [0, 1]) rfl ?_
        refine TO.addG g19 rfl rfl rfl rfl rfl ?_
        refine TO.move rfl rfl rfl rfl ?_
        refine TO.done ?_
        have H := loop_next H C_1
        exact X.againE4 n_1 (x1 + 1) Hs16 tt14 ⟨H, hJ17⟩ (Nat.lt_succ_self _) (AllF.cons rfl (AllF.cons rfl (AllF.cons rfl (AllF.cons rfl (AllF.cons rfl AllF.nil))))) (Pick.skip (Pick.refl _))
    ·
      refine T.regionL (ll := [0, 1, 2, 3, 4, 5, 6, 7, 8, 9, 10, 11, 12]) rfl ?_
      refine TO.move rfl rfl rfl rfl ?_
      refine TO.ldHB h_c2_k rfl rfl rfl rfl rfl TWS4.s31 ?_
      refine TO.fieldAddr0 rfl rfl rfl rfl TWS4.f28_1 ?_
      refine TO.load1 rfl rfl rfl rfl TWS4.s3 (List.Mem.head _) rfl ?_
      refine TO.callX TWS4.c84 rfl rfl rfl rfl (fun wc hwc => w_cut_has (s0 := c2) (v1 := (c1.Arcs.getD x1.toNat default).to) wc (h_c2.mono hwc) e12) ?_
      rintro _ _ ⟨rfl, rfl⟩
      refine TO.neb rfl rfl rfl rfl rfl TWS4.u4 ?_
      refine TO.move rfl rfl rfl rfl ?_
      refine TO.decB (t := 25) (b' := false) rfl (Bool.eq_false_iff.2 g13) ?_
      refine TO.shut rfl rfl rfl rfl ?_
      refine TO.shut rfl rfl rfl rfl ?_
      refine TO.shut rfl rfl rfl rfl ?_
      refine TO.shut rfl rfl rfl rfl ?_
      refine TO.shut rfl rfl rfl rfl ?_
      refine TO.pickF rfl rfl rfl rfl rfl ?_
      refine TO.done ?_
      refine X.seq_normal ?_
      refine T.trim (AllF.cons (t := 0) rfl (AllF.cons (t := 2) rfl (AllF.cons (t := 8) rfl (AllF.cons (t := 9) rfl (AllF.cons (t := 10) rfl (AllF.cons (t := 26) rfl (AllF.cons (t := 27) rfl (AllF.cons (t := 28) rfl (AllF.cons (t := 29) rfl (AllF.cons (t := 30) rfl (AllF.cons (t := 31) rfl AllF.nil))))))))))) ?_
      refine T.condF rfl rfl ?_
      refine T.skip ?_
      refine X.block_normal ?_
      refine X.seq_normal ?_
      obtain ⟨g20, H⟩ := gd_some H
      refine T.regionL (ll := [0, 1]) rfl ?_
      refine TO.addG g20 rfl rfl rfl rfl rfl ?_
      refine TO.move rfl rfl rfl rfl ?_
      refine TO.done ?_
      have H := loop_next H C_1
      exact X.againE4 n_1 (x1 + 1) Hs2 tt3 ⟨H, hJ4⟩ (Nat.lt_succ_self _) (AllF.cons rfl (AllF.cons rfl (AllF.cons rfl (AllF.cons rfl (AllF.cons rfl AllF.nil))))) (Pick.skip (Pick.refl _))
  ·
    refine T.condPF rfl g5 ?_
    refine T.exit ?_
    refine X.then_exit ?_
    have H := loop_exitE H C_1 ▸ K_1
    refine X.then_exit ?_
    refine X.block_here ?_
    refine X.fall ?_
    obtain rfl := ret1 H
    exact X.ret0 rfl rfl rfl rfl  (Pick.refl _) ⟨rfl, hJ4⟩
/-- acequia/cut.Cap -/
theorem w_cut_Cap {n0 : Net} {s1 : List Bool} {n0_Arcs_b : Option Addr} {n0_Arcs_n : Nat} {n0_Arcs_c : Nat} {s1_b : Option Addr} {s1_n : Nat} {s1_c : Nat} (w : World) (h_n0_Arcs : RS w [] arcC 3 n0_Arcs_b n0_Arcs_n n0_Arcs_c n0.Arcs) (h_s1 : RS w [] boolC 1 s1_b s1_n s1_c s1) {r0 : Int} {r1 : Int} (H : m_cut_Cap n0 s1 = some (r0, r1)) : Fnc Try.prog 44 #[.agg #[.int .i64 n0.N, .int .i64 n0.S, .int .i64 n0.T, .slice n0_Arcs_b n0_Arcs_n n0_Arcs_c], .slice s1_b s1_n s1_c] w [] (fun v N => v = .tuple #[.int .i64 r0, .int .i64 r1] ∧ N = []) := by
  unfold m_cut_Cap at H
  refine Fnc.enterM (vs := [.agg #[.int .i64 n0.N, .int .i64 n0.S, .int .i64 n0.T, .slice n0_Arcs_b n0_Arcs_n n0_Arcs_c], .slice s1_b s1_n s1_c]) Try.func44 rfl rfl (Inv.refl w) ?_
  refine T.seq ?_
  refine T.regionL (ll := [0, 1, 2]) rfl ?_
  refine TO.boxA rfl rfl rfl rfl ?_; intro b1
  refine TO.assign rfl rfl rfl rfl ?_
  refine TO.assign rfl rfl rfl rfl ?_
  refine TO.done ?_
  refine X.seq_normal ?_
  refine T.seq ?_
  refine T.seq ?_
  obtain ⟨r3, e4, H⟩ := bd_some H
  refine T.regionL (ll := [0, 1, 2, 3]) rfl ?_
  refine TO.loadA rfl rfl rfl rfl TWS4.a24 (List.Mem.head _) rfl ?_
  refine TO.move rfl rfl rfl rfl ?_
  refine TO.callX TWS4.c41 rfl rfl rfl rfl (fun wc hwc => w_cut_Right (n0 := n0) (s1 := s1) wc (h_n0_Arcs.mono hwc) (h_s1.mono hwc) e4) ?_
  rintro _ _ ⟨rfl, rfl⟩
  refine TO.not rfl rfl rfl rfl ?_
  refine TO.done ?_
  refine X.seq_normal ?_
  rcases ite_some H with ⟨g5, H⟩ | ⟨g5, H⟩
  ·
    refine T.condT rfl g5 ?_
    refine T.seq ?_
    refine T.regionL (ll := [0, 1]) rfl ?_
    refine TO.assign rfl rfl rfl rfl ?_
    refine TO.assign rfl rfl rfl rfl ?_
    refine TO.done ?_
    refine X.seq_normal ?_
    refine T.ret ?_
    refine X.then_ret ?_
    obtain ⟨rfl, rfl⟩ := ret2 H
    exact X.retM2 [] rfl rfl rfl rfl rfl (Pick.refl _) (Res.tmp rfl) (Res.tmp rfl) Pick.nil ⟨rfl, rfl⟩
  ·
    refine T.condF rfl (Bool.eq_false_iff.2 g5) ?_
    refine T.skip ?_
    refine X.seq_normal ?_
    refine T.seq ?_
    refine T.regionL (ll := [0, 1]) rfl ?_
    refine TO.alloc rfl rfl rfl TWS4.z2 ?_; intro b6
    refine TO.store1n (cs' := [.int .i64 0]) rfl rfl rfl rfl (Take.head _ _) TWS4.n2 rfl rfl rfl ?_
    refine TO.done ?_
    refine X.seq_normal ?_
    refine T.seq ?_
    refine T.seq ?_
    obtain ⟨⟨⟩, e8, H⟩ := bd_some H
    refine T.regionL (ll := [0, 1, 2]) rfl ?_
    refine TO.loadA rfl rfl rfl rfl TWS4.a24 (List.Mem.tail _ (List.Mem.head _)) rfl ?_
    refine TO.move rfl rfl rfl rfl ?_
    refine TO.callX TWS4.c72 rfl rfl rfl rfl (fun wc hwc => w_cut_across (n0 := n0) (s1 := s1) wc (h_n0_Arcs.mono hwc) (h_s1.mono hwc) e8) ?_
    rintro _ _ ⟨b9, b10, rfl, rfl⟩
    refine TO.done ?_
    refine X.seq_normal ?_
    refine T.trim (AllF.cons (t := 2) rfl (AllF.cons (t := 6) rfl (AllF.cons (t := 15) rfl AllF.nil))) ?_
    refine T.block ?_
    obtain ⟨t_1, e_1, K_1⟩ := bd_some H
    refine T.rangeFunc (S := (Int)) (X := (Empty)) (V := Int × Bool) rfl TWS4.c83 rfl rfl (fun v => [.int .i64 v.1, .bool v.2]) (fun _ => rfl) (fun s v => m_cut_Cap_y1 n0 s v.1 v.2) (fun t Hq => match t with | .inl sum13 => Hq = [(some b6, .cells #[.int .i64 sum13] 2 (0, 0))] | .inr x => nomatch x) (fun x => nomatch x) 0 t_1 [(some b6, .cells #[.int .i64 0] 2 (0, 0))] [(some b9, .cells #[.int .i64 n0.N, .int .i64 n0.S, .int .i64 n0.T, .slice n0_Arcs_b n0_Arcs_n n0_Arcs_c] 24 (0, 0)), (some b10, .cells #[.slice s1_b s1_n s1_c] 31 (0, 0)), (some b1, .cells #[.int .i64 n0.N, .int .i64 n0.S, .int .i64 n0.T, .slice n0_Arcs_b n0_Arcs_n n0_Arcs_c] 24 (0, 0))] rfl (Pick.cons (Take.tail (Take.tail (Take.head _ _))) (Pick.refl _)) ?_ ?_ ?_ ?_
    · intro lp wc J_ H0_ hJ_ hin_ hY_ lo_ hwc hH0
      subst hH0
      exact w_cut_across_1 (yy_ := (fun s v => m_cut_Cap_y1 n0 s v.1 v.2)) (c1 := n0) (c2 := s1) (tt_ := .inl 0) (J_ := J_) wc hin_ hJ_ hY_ (h_n0_Arcs.monoM (by decide) hwc (List.Perm.refl _) rfl) (hwc.hbM (cs := [.int .i64 n0.N, .int .i64 n0.S, .int .i64 n0.T, .slice n0_Arcs_b n0_Arcs_n n0_Arcs_c]) (List.Perm.refl _) rfl (List.Mem.head _)) (h_s1.monoM (by decide) hwc (List.Perm.refl _) rfl) (hwc.hbM (cs := [.slice s1_b s1_n s1_c]) (List.Perm.refl _) rfl (List.Mem.tail _ (List.Mem.head _))) e_1
    · rintro lp w_1 sum13 ⟨y14, y15⟩ r_1 _ hy rfl hs_1 ho_1
      refine ⟨[(2, .pointer (some ⟨b1, 0, none⟩)), (6, .pointer (some ⟨b6, 0, none⟩)), (7, .int .i64 y14), (8, .bool y15)], [(some b6, .cells #[.int .i64 sum13] 2 (0, 0))], ?_, ?_⟩
      ·
        refine T.seq ?_
        refine T.regionL (ll := [0]) rfl ?_
        refine TO.assign rfl rfl rfl rfl ?_
        refine TO.done ?_
        refine X.seq_normal ?_
        refine T.regionL (ll := [0]) rfl ?_
        refine TO.assign rfl rfl rfl rfl ?_
        refine TO.done ?_
        exact X.asg (AllF.cons rfl (AllF.cons rfl (AllF.cons rfl (AllF.cons rfl AllF.nil)))) (Pick.refl _)
      · intro w_2 hs_2 hwc
        have h_n0_Arcs := h_n0_Arcs.monoM (by decide) hwc (List.Perm.refl _) rfl
        have h_s1 := h_s1.monoM (by decide) hwc (List.Perm.refl _) rfl
        have hb_e11 := hwc.hbM (cs := [.int .i64 n0.N, .int .i64 n0.S, .int .i64 n0.T, .slice n0_Arcs_b n0_Arcs_n n0_Arcs_c]) (List.Perm.refl _) rfl (List.Mem.head _)
        have hb_e12 := hwc.hbM (cs := [.slice s1_b s1_n s1_c]) (List.Perm.refl _) rfl (List.Mem.tail _ (List.Mem.head _))
        have hb_e2 := hwc.hbM (cs := [.int .i64 n0.N, .int .i64 n0.S, .int .i64 n0.T, .slice n0_Arcs_b n0_Arcs_n n0_Arcs_c]) (List.Perm.refl _) rfl (List.Mem.tail _ (List.Mem.tail _ (List.Mem.head _)))
        have H : m_cut_Cap_y1 n0 sum13 y14 y15 = some r_1 := hy
        unfold m_cut_Cap_y1 at H
        refine T.block ?_
        refine T.seq ?_
        refine T.regionL (ll := [0]) rfl ?_
        refine TO.move rfl rfl rfl rfl ?_
        refine TO.done ?_
        refine X.seq_normal ?_
        rcases ite_some H with ⟨g16, H⟩ | ⟨g16, H⟩
        ·
          refine T.condT rfl g16 ?_
          obtain ⟨g17, H⟩ := gd_some H
          obtain ⟨g18, H⟩ := gd_some H
          refine T.drawS 7 [0, 1, 2, 3, 4, 5, 6] rfl mixed (by kernel_rfl) (by kernel_rfl) rfl (by kernel_rfl) ?_
          refine TQ.load1 rfl rfl rfl rfl TWS4.s2 (List.Mem.head _) rfl ?_
          refine TQ.fieldAddr0 rfl rfl rfl rfl TWS4.f24_3 ?_
          refine TQ.ldHB hb_e2 rfl rfl rfl rfl rfl TWS4.s22 ?_
          refine TQ.move rfl rfl rfl rfl ?_
          refine TQ.ixR h_n0_Arcs g17 rfl rfl rfl rfl rfl TWS4.l22 TWS4.n28 ?_
          refine TQ.faR rfl rfl rfl rfl TWS4.f28_2 ?_
          refine TQ.ldFR (v := .int .i64 ((n0.Arcs.getD y14.toNat default).cap)) default h_n0_Arcs g17 rfl rfl rfl rfl rfl TWS4.s2 ?_
          refine TQ.tail [7, 8] rfl rfl ?_
          refine TO.addG g18 rfl rfl rfl rfl rfl ?_
          refine TO.store1n (cs' := [.int .i64 (sum13 + ((n0.Arcs.getD y14.toNat default).cap))]) rfl rfl rfl rfl (Take.head _ _) TWS4.n2 rfl rfl rfl ?_
          refine TO.done ?_
          refine X.block_normal ?_
          exact X.rfNext H rfl (Pick.cons (Take.head _ _) Pick.nil)
        ·
          refine T.condF rfl (Bool.eq_false_iff.2 g16) ?_
          refine T.skip ?_
          refine X.block_normal ?_
          exact X.rfNext H rfl (Pick.cons (Take.head _ _) Pick.nil)
    ·
      rintro sum13 ht rr_1 _ rfl
      subst ht
      have H : (some (sum13, 0)) = some (r0, r1) := K_1
      refine X.reheap (H := [(some b6, .cells #[.int .i64 sum13] 2 (0, 0)), (some rr_1, mkO), (some b9, .cells #[.int .i64 n0.N, .int .i64 n0.S, .int .i64 n0.T, .slice n0_Arcs_b n0_Arcs_n n0_Arcs_c] 24 (0, 0)), (some b10, .cells #[.slice s1_b s1_n s1_c] 31 (0, 0)), (some b1, .cells #[.int .i64 n0.N, .int .i64 n0.S, .int .i64 n0.T, .slice n0_Arcs_b n0_Arcs_n n0_Arcs_c] 24 (0, 0))]) rfl ?_
      refine X.block_normal ?_
      refine X.seq_normal ?_
      refine T.seq ?_
      refine T.regionL (ll := [0, 1, 2]) rfl ?_
      refine TO.load1 rfl rfl rfl rfl TWS4.s2 (List.Mem.head _) rfl ?_
      refine TO.assign rfl rfl rfl rfl ?_
      refine TO.assign rfl rfl rfl rfl ?_
      refine TO.done ?_
      refine X.seq_normal ?_
      refine T.ret ?_
      obtain ⟨rfl, rfl⟩ := ret2 H
      exact X.retM2 [rr_1] rfl rfl rfl rfl rfl (Pick.cons (Take.tail (Take.head _ _)) (Pick.refl _)) (Res.tmp rfl) (Res.tmp rfl) Pick.nil ⟨rfl, rfl⟩
    ·
      intro x; exact nomatch x
/-- acequia/cut.Across -/
theorem w_cut_Across {n0 : Net} {f1 : List Int} {s2 : List Bool} {n0_Arcs_b : Option Addr} {n0_Arcs_n : Nat} {n0_Arcs_c : Nat} {f1_b : Option Addr} {f1_n : Nat} {f1_c : Nat} {s2_b : Option Addr} {s2_n : Nat} {s2_c : Nat} (w : World) (h_n0_Arcs : RS w [] arcC 3 n0_Arcs_b n0_Arcs_n n0_Arcs_c n0.Arcs) (h_f1 : RS w [] (intC .i64) 1 f1_b f1_n f1_c f1) (h_s2 : RS w [] boolC 1 s2_b s2_n s2_c s2) {r0 : Int} {r1 : Int} (H : m_cut_Across n0 f1 s2 = some (r0, r1)) : Fnc Try.prog 45 #[.agg #[.int .i64 n0.N, .int .i64 n0.S, .int .i64 n0.T, .slice n0_Arcs_b n0_Arcs_n n0_Arcs_c], .slice f1_b f1_n f1_c, .slice s2_b s2_n s2_c] w [] (fun v N => v = .tuple #[.int .i64 r0, .int .i64 r1] ∧ N = []) := by
  unfold m_cut_Across at H
  refine Fnc.enterM (vs := [.agg #[.int .i64 n0.N, .int .i64 n0.S, .int .i64 n0.T, .slice n0_Arcs_b n0_Arcs_n n0_Arcs_c], .slice f1_b f1_n f1_c, .slice s2_b s2_n s2_c]) Try.func45 rfl rfl (Inv.refl w) ?_
  refine T.seq ?_
  refine T.regionL (ll := [0, 1, 2, 3]) rfl ?_
  refine TO.boxA rfl rfl rfl rfl ?_; intro b1
  refine TO.box rfl rfl rfl rfl ?_; intro b3
  refine TO.assign rfl rfl rfl rfl ?_
  refine TO.assign rfl rfl rfl rfl ?_
  refine TO.done ?_
  refine X.seq_normal ?_
  refine T.seq ?_
  refine T.block ?_
  refine T.seq ?_
  obtain ⟨r5, e6, H⟩ := bd_some H
  refine T.regionL (ll := [0, 1, 2, 3, 4]) rfl ?_
  refine TO.loadA rfl rfl rfl rfl TWS4.a24 (List.Mem.tail _ (List.Mem.head _)) rfl ?_
  refine TO.move rfl rfl rfl rfl ?_
  refine TO.callX TWS4.c41 rfl rfl rfl rfl (fun wc hwc => w_cut_Right (n0 := n0) (s1 := s2) wc (h_n0_Arcs.mono hwc) (h_s2.mono hwc) e6) ?_
  rintro _ _ ⟨rfl, rfl⟩
  refine TO.not rfl rfl rfl rfl ?_
  refine TO.assign rfl rfl rfl rfl ?_
  refine TO.done ?_
  refine X.seq_normal ?_
  refine T.trim (AllF.cons (t := 2) rfl (AllF.cons (t := 3) rfl (AllF.cons (t := 4) rfl (AllF.cons (t := 11) rfl AllF.nil)))) ?_
  rcases ite_some H with ⟨g7, H⟩ | ⟨g7, H⟩
  ·
    refine T.condT rfl g7 ?_
    refine T.seq ?_
    refine T.regionL (ll := [0, 1]) rfl ?_
    refine TO.assign rfl rfl rfl rfl ?_
    refine TO.assign rfl rfl rfl rfl ?_
    refine TO.done ?_
    refine X.seq_normal ?_
    refine T.ret ?_
    refine X.block_ret ?_
    refine X.then_ret ?_
    obtain ⟨rfl, rfl⟩ := ret2 H
    exact X.retM2 [] rfl rfl rfl rfl rfl (Pick.refl _) (Res.tmp rfl) (Res.tmp rfl) Pick.nil ⟨rfl, rfl⟩
  ·
    refine T.condF rfl (Bool.eq_false_iff.2 g7) ?_
    refine T.seq ?_
    obtain ⟨r8, e9, H⟩ := bd_some H
    refine T.regionL (ll := [0, 1, 2, 3, 4]) rfl ?_
    refine TO.loadA rfl rfl rfl rfl TWS4.a24 (List.Mem.tail _ (List.Mem.head _)) rfl ?_
    refine TO.load1 rfl rfl rfl rfl TWS4.s25 (List.Mem.head _) rfl ?_
    refine TO.callX TWS4.c28 rfl rfl rfl rfl (fun wc hwc => w_flow_Within (n0 := n0) (f1 := f1) wc (h_n0_Arcs.mono hwc) (h_f1.mono hwc) e9) ?_
    rintro _ _ ⟨rfl, rfl⟩
    refine TO.not rfl rfl rfl rfl ?_
    refine TO.assign rfl rfl rfl rfl ?_
    refine TO.done ?_
    refine X.seq_normal ?_
    rcases ite_some H with ⟨g10, H⟩ | ⟨g10, H⟩
    ·
      refine T.condT rfl g10 ?_
      refine T.seq ?_
      refine T.regionL (ll := [0, 1]) rfl ?_
      refine TO.assign rfl rfl rfl rfl ?_
      refine TO.assign rfl rfl rfl rfl ?_
      refine TO.done ?_
      refine X.seq_normal ?_
      refine T.trim (AllF.cons (t := 6) rfl (AllF.cons (t := 7) rfl AllF.nil)) ?_
      refine T.ret ?_
      refine X.block_ret ?_
      refine X.then_ret ?_
      obtain ⟨rfl, rfl⟩ := ret2 H
      exact X.retM2 [] rfl rfl rfl rfl rfl (Pick.refl _) (Res.tmp rfl) (Res.tmp rfl) Pick.nil ⟨rfl, rfl⟩
    ·
      refine T.condF rfl (Bool.eq_false_iff.2 g10) ?_
      refine T.skip ?_
      refine X.block_normal ?_
      refine X.seq_normal ?_
      refine T.seq ?_
      refine T.regionL (ll := [0, 1]) rfl ?_
      refine TO.alloc rfl rfl rfl TWS4.z2 ?_; intro b11
      refine TO.store1n (cs' := [.int .i64 0]) rfl rfl rfl rfl (Take.head _ _) TWS4.n2 rfl rfl rfl ?_
      refine TO.done ?_
      refine X.seq_normal ?_
      refine T.seq ?_
      refine T.seq ?_
      obtain ⟨⟨⟩, e13, H⟩ := bd_some H
      refine T.regionL (ll := [0, 1, 2]) rfl ?_
      refine TO.loadA rfl rfl rfl rfl TWS4.a24 (List.Mem.tail _ (List.Mem.tail _ (List.Mem.head _))) rfl ?_
      refine TO.move rfl rfl rfl rfl ?_
      refine TO.callX TWS4.c72 rfl rfl rfl rfl (fun wc hwc => w_cut_across (n0 := n0) (s1 := s2) wc (h_n0_Arcs.mono hwc) (h_s2.mono hwc) e13) ?_
      rintro _ _ ⟨b14, b15, rfl, rfl⟩
      refine TO.done ?_
      refine X.seq_normal ?_
      refine T.trim (AllF.cons (t := 4) rfl (AllF.cons (t := 8) rfl (AllF.cons (t := 23) rfl AllF.nil))) ?_
      refine T.block ?_
      obtain ⟨t_1, e_1, K_1⟩ := bd_some H
      refine T.rangeFunc (S := (Int)) (X := (Empty)) (V := Int × Bool) rfl TWS4.c83 rfl rfl (fun v => [.int .i64 v.1, .bool v.2]) (fun _ => rfl) (fun s v => m_cut_Across_y1 f1 s v.1 v.2) (fun t Hq => match t with | .inl sum18 => Hq = [(some b11, .cells #[.int .i64 sum18] 2 (0, 0))] | .inr x => nomatch x) (fun x => nomatch x) 0 t_1 [(some b11, .cells #[.int .i64 0] 2 (0, 0))] [(some b14, .cells #[.int .i64 n0.N, .int .i64 n0.S, .int .i64 n0.T, .slice n0_Arcs_b n0_Arcs_n n0_Arcs_c] 24 (0, 0)), (some b15, .cells #[.slice s2_b s2_n s2_c] 31 (0, 0)), (some b3, .cells #[.slice f1_b f1_n f1_c] 25 (0, 0)), (some b1, .cells #[.int .i64 n0.N, .int .i64 n0.S, .int .i64 n0.T, .slice n0_Arcs_b n0_Arcs_n n0_Arcs_c] 24 (0, 0))] rfl (Pick.cons (Take.tail (Take.tail (Take.head _ _))) (Pick.refl _)) ?_ ?_ ?_ ?_
      · intro lp wc J_ H0_ hJ_ hin_ hY_ lo_ hwc hH0
        subst hH0
        exact w_cut_across_1 (yy_ := (fun s v => m_cut_Across_y1 f1 s v.1 v.2)) (c1 := n0) (c2 := s2) (tt_ := .inl 0) (J_ := J_) wc hin_ hJ_ hY_ (h_n0_Arcs.monoM (by decide) hwc (List.Perm.refl _) rfl) (hwc.hbM (cs := [.int .i64 n0.N, .int .i64 n0.S, .int .i64 n0.T, .slice n0_Arcs_b n0_Arcs_n n0_Arcs_c]) (List.Perm.refl _) rfl (List.Mem.head _)) (h_s2.monoM (by decide) hwc (List.Perm.refl _) rfl) (hwc.hbM (cs := [.slice s2_b s2_n s2_c]) (List.Perm.refl _) rfl (List.Mem.tail _ (List.Mem.head _))) e_1
      · rintro lp w_1 sum18 ⟨y19, y20⟩ r_1 _ hy rfl hs_1 ho_1
        refine ⟨[(4, .pointer (some ⟨b3, 0, none⟩)), (8, .pointer (some ⟨b11, 0, none⟩)), (9, .int .i64 y19), (10, .bool y20)], [(some b11, .cells #[.int .i64 sum18] 2 (0, 0))], ?_, ?_⟩
        ·
          refine T.seq ?_
          refine T.regionL (ll := [0]) rfl ?_
          refine TO.assign rfl rfl rfl rfl ?_
          refine TO.done ?_
          refine X.seq_normal ?_
          refine T.regionL (ll := [0]) rfl ?_
          refine TO.assign rfl rfl rfl rfl ?_
          refine TO.done ?_
          exact X.asg (AllF.cons rfl (AllF.cons rfl (AllF.cons rfl (AllF.cons rfl AllF.nil)))) (Pick.refl _)
        · intro w_2 hs_2 hwc
          have h_n0_Arcs := h_n0_Arcs.monoM (by decide) hwc (List.Perm.refl _) rfl
          have h_f1 := h_f1.monoM (by decide) hwc (List.Perm.refl _) rfl
          have h_s2 := h_s2.monoM (by decide) hwc (List.Perm.refl _) rfl
          have hb_e16 := hwc.hbM (cs := [.int .i64 n0.N, .int .i64 n0.S, .int .i64 n0.T, .slice n0_Arcs_b n0_Arcs_n n0_Arcs_c]) (List.Perm.refl _) rfl (List.Mem.head _)
          have hb_e17 := hwc.hbM (cs := [.slice s2_b s2_n s2_c]) (List.Perm.refl _) rfl (List.Mem.tail _ (List.Mem.head _))
          have hb_e4 := hwc.hbM (cs := [.slice f1_b f1_n f1_c]) (List.Perm.refl _) rfl (List.Mem.tail _ (List.Mem.tail _ (List.Mem.head _)))
          have H : m_cut_Across_y1 f1 sum18 y19 y20 = some r_1 := hy
          unfold m_cut_Across_y1 at H
          refine T.block ?_
          refine T.seq ?_
          refine T.regionL (ll := [0]) rfl ?_
          refine TO.move rfl rfl rfl rfl ?_
          refine TO.done ?_
          refine X.seq_normal ?_
          rcases ite_some H with ⟨g21, H⟩ | ⟨g21, H⟩
          ·
            refine T.condT rfl g21 ?_
            obtain ⟨g22, H⟩ := gd_some H
            obtain ⟨g23, H⟩ := gd_some H
            refine T.drawS 5 [0, 1, 2, 3, 4] rfl mixed (by kernel_rfl) (by kernel_rfl) rfl (by kernel_rfl) ?_
            refine TQ.load1 rfl rfl rfl rfl TWS4.s2 (List.Mem.head _) rfl ?_
            refine TQ.ldHB hb_e4 rfl rfl rfl rfl rfl TWS4.s25 ?_
            refine TQ.move rfl rfl rfl rfl ?_
            refine TQ.ixR h_f1 g22 rfl rfl rfl rfl rfl TWS4.l25 TWS4.n2 ?_
            refine TQ.ldIR h_f1 g22 rfl rfl rfl rfl TWS4.s2 ?_
            refine TQ.tail [5, 6] rfl rfl ?_
            refine TO.addG g23 rfl rfl rfl rfl rfl ?_
            refine TO.store1n (cs' := [.int .i64 (sum18 + (f1.getD y19.toNat 0))]) rfl rfl rfl rfl (Take.head _ _) TWS4.n2 rfl rfl rfl ?_
            refine TO.done ?_
            refine X.block_normal ?_
            exact X.rfNext H rfl (Pick.cons (Take.head _ _) Pick.nil)
          ·
            refine T.condF rfl (Bool.eq_false_iff.2 g21) ?_
            obtain ⟨g24, H⟩ := gd_some H
            obtain ⟨g25, H⟩ := gd_some H
            refine T.drawS 5 [0, 1, 2, 3, 4] rfl mixed (by kernel_rfl) (by kernel_rfl) rfl (by kernel_rfl) ?_
            refine TQ.load1 rfl rfl rfl rfl TWS4.s2 (List.Mem.head _) rfl ?_
            refine TQ.ldHB hb_e4 rfl rfl rfl rfl rfl TWS4.s25 ?_
            refine TQ.move rfl rfl rfl rfl ?_
            refine TQ.ixR h_f1 g24 rfl rfl rfl rfl rfl TWS4.l25 TWS4.n2 ?_
            refine TQ.ldIR h_f1 g24 rfl rfl rfl rfl TWS4.s2 ?_
            refine TQ.tail [5, 6] rfl rfl ?_
            refine TO.subG g25 rfl rfl rfl rfl rfl ?_
            refine TO.store1n (cs' := [.int .i64 (sum18 - (f1.getD y19.toNat 0))]) rfl rfl rfl rfl (Take.head _ _) TWS4.n2 rfl rfl rfl ?_
            refine TO.done ?_
            refine X.block_normal ?_
            exact X.rfNext H rfl (Pick.cons (Take.head _ _) Pick.nil)
      ·
        rintro sum18 ht rr_1 _ rfl
        subst ht
        have H : (some (sum18, 0)) = some (r0, r1) := K_1
        refine X.reheap (H := [(some b11, .cells #[.int .i64 sum18] 2 (0, 0)), (some rr_1, mkO), (some b14, .cells #[.int .i64 n0.N, .int .i64 n0.S, .int .i64 n0.T, .slice n0_Arcs_b n0_Arcs_n n0_Arcs_c] 24 (0, 0)), (some b15, .cells #[.slice s2_b s2_n s2_c] 31 (0, 0)), (some b3, .cells #[.slice f1_b f1_n f1_c] 25 (0, 0)), (some b1, .cells #[.int .i64 n0.N, .int .i64 n0.S, .int .i64 n0.T, .slice n0_Arcs_b n0_Arcs_n n0_Arcs_c] 24 (0, 0))]) rfl ?_
        refine X.block_normal ?_
        refine X.seq_normal ?_
        refine T.seq ?_
        refine T.regionL (ll := [0, 1, 2]) rfl ?_
        refine TO.load1 rfl rfl rfl rfl TWS4.s2 (List.Mem.head _) rfl ?_
        refine TO.assign rfl rfl rfl rfl ?_
        refine TO.assign rfl rfl rfl rfl ?_
        refine TO.done ?_
        refine X.seq_normal ?_
        refine T.ret ?_
        obtain ⟨rfl, rfl⟩ := ret2 H
        exact X.retM2 [rr_1] rfl rfl rfl rfl rfl (Pick.cons (Take.tail (Take.head _ _)) (Pick.refl _)) (Res.tmp rfl) (Res.tmp rfl) Pick.nil ⟨rfl, rfl⟩
      ·
        intro x; exact nomatch x
/-- acequia/cut.Tight -/
theorem w_cut_Tight {n0 : Net} {f1 : List Int} {s2 : List Bool} {n0_Arcs_b : Option Addr} {n0_Arcs_n : Nat} {n0_Arcs_c : Nat} {f1_b : Option Addr} {f1_n : Nat} {f1_c : Nat} {s2_b : Option Addr} {s2_n : Nat} {s2_c : Nat} (w : World) (h_n0_Arcs : RS w [] arcC 3 n0_Arcs_b n0_Arcs_n n0_Arcs_c n0.Arcs) (h_f1 : RS w [] (intC .i64) 1 f1_b f1_n f1_c f1) (h_s2 : RS w [] boolC 1 s2_b s2_n s2_c s2) {r0 : Bool} (H : m_cut_Tight n0 f1 s2 = some r0) : Fnc Try.prog 46 #[.agg #[.int .i64 n0.N, .int .i64 n0.S, .int .i64 n0.T, .slice n0_Arcs_b n0_Arcs_n n0_Arcs_c], .slice f1_b f1_n f1_c, .slice s2_b s2_n s2_c] w [] (fun v N => v = .bool r0 ∧ N = []) := by
  unfold m_cut_Tight at H
  refine Fnc.enterM (vs := [.agg #[.int .i64 n0.N, .int .i64 n0.S, .int .i64 n0.T, .slice n0_Arcs_b n0_Arcs_n n0_Arcs_c], .slice f1_b f1_n f1_c, .slice s2_b s2_n s2_c]) Try.func46 rfl rfl (Inv.refl w) ?_
  refine T.seq ?_
  refine T.regionL (ll := [0, 1, 2]) rfl ?_
  refine TO.boxA rfl rfl rfl rfl ?_; intro b1
  refine TO.box rfl rfl rfl rfl ?_; intro b3
  refine TO.alloc rfl rfl rfl TWS4.z4 ?_; intro b5
  refine TO.done ?_
  refine X.seq_normal ?_
  refine T.seq ?_
  refine T.seq ?_
  obtain ⟨r7, e8, H⟩ := bd_some H
  rcases ite_some H with ⟨g9, H⟩ | ⟨g9, H⟩
  ·
    refine T.regionL (ll := [0, 1, 2, 3, 4, 5, 6, 7, 8, 9]) rfl ?_
    refine TO.loadA rfl rfl rfl rfl TWS4.a24 (List.Mem.tail _ (List.Mem.tail _ (List.Mem.head _))) rfl ?_
    refine TO.move rfl rfl rfl rfl ?_
    refine TO.callX TWS4.c41 rfl rfl rfl rfl (fun wc hwc => w_cut_Right (n0 := n0) (s1 := s2) wc (h_n0_Arcs.mono hwc) (h_s2.mono hwc) e8) ?_
    rintro _ _ ⟨rfl, rfl⟩
    refine TO.not rfl rfl rfl rfl ?_
    refine TO.move rfl rfl rfl rfl ?_
    refine TO.decB (t := 13) (b' := true) rfl g9 ?_
    refine TO.shut rfl rfl rfl rfl ?_
    refine TO.shut rfl rfl rfl rfl ?_
    refine TO.shut rfl rfl rfl rfl ?_
    refine TO.shut rfl rfl rfl rfl ?_
    refine TO.pickT rfl rfl rfl rfl rfl ?_
    refine TO.done ?_
    refine X.seq_normal ?_
    refine T.trim (AllF.cons (t := 2) rfl (AllF.cons (t := 3) rfl (AllF.cons (t := 4) rfl (AllF.cons (t := 6) rfl (AllF.cons (t := 18) rfl AllF.nil))))) ?_
    refine T.condT rfl rfl ?_
    refine T.seq ?_
    refine T.regionL (ll := [0]) rfl ?_
    refine TO.store1n (cs' := [.bool false]) rfl rfl rfl rfl (Take.head _ _) TWS4.n4 rfl rfl rfl ?_
    refine TO.done ?_
    refine X.seq_normal ?_
    refine T.ret ?_
    refine X.then_ret ?_
    obtain rfl := ret1 H
    exact X.retM1 [] rfl rfl rfl rfl rfl (Pick.refl _) (Res.cell1 rfl TWS4.s4 (List.Mem.head _) rfl) Pick.nil ⟨rfl, rfl⟩
  ·
    obtain ⟨r10, e11, H⟩ := bd_some H
    refine T.regionL (ll := [0, 1, 2, 3, 4, 5, 6, 7, 8, 9]) rfl ?_
    refine TO.loadA rfl rfl rfl rfl TWS4.a24 (List.Mem.tail _ (List.Mem.tail _ (List.Mem.head _))) rfl ?_
    refine TO.move rfl rfl rfl rfl ?_
    refine TO.callX TWS4.c41 rfl rfl rfl rfl (fun wc hwc => w_cut_Right (n0 := n0) (s1 := s2) wc (h_n0_Arcs.mono hwc) (h_s2.mono hwc) e8) ?_
    rintro _ _ ⟨rfl, rfl⟩
    refine TO.not rfl rfl rfl rfl ?_
    refine TO.move rfl rfl rfl rfl ?_
    refine TO.decB (t := 13) (b' := false) rfl (Bool.eq_false_iff.2 g9) ?_
    refine TO.loadA rfl rfl rfl rfl TWS4.a24 (List.Mem.tail _ (List.Mem.tail _ (List.Mem.head _))) rfl ?_
    refine TO.load1 rfl rfl rfl rfl TWS4.s25 (List.Mem.tail _ (List.Mem.head _)) rfl ?_
    refine TO.callX TWS4.c28 rfl rfl rfl rfl (fun wc hwc => w_flow_Within (n0 := n0) (f1 := f1) wc (h_n0_Arcs.mono hwc) (h_f1.mono hwc) e11) ?_
    rintro _ _ ⟨rfl, rfl⟩
    refine TO.not rfl rfl rfl rfl ?_
    refine TO.pickF rfl rfl rfl rfl rfl ?_
    refine TO.done ?_
    refine X.seq_normal ?_
    refine T.trim (AllF.cons (t := 2) rfl (AllF.cons (t := 3) rfl (AllF.cons (t := 4) rfl (AllF.cons (t := 6) rfl (AllF.cons (t := 18) rfl AllF.nil))))) ?_
    rcases ite_some H with ⟨g12, H⟩ | ⟨g12, H⟩
    ·
      refine T.condT rfl g12 ?_
      refine T.seq ?_
      refine T.regionL (ll := [0]) rfl ?_
      refine TO.store1n (cs' := [.bool false]) rfl rfl rfl rfl (Take.head _ _) TWS4.n4 rfl rfl rfl ?_
      refine TO.done ?_
      refine X.seq_normal ?_
      refine T.ret ?_
      refine X.then_ret ?_
      obtain rfl := ret1 H
      exact X.retM1 [] rfl rfl rfl rfl rfl (Pick.refl _) (Res.cell1 rfl TWS4.s4 (List.Mem.head _) rfl) Pick.nil ⟨rfl, rfl⟩
    ·
      refine T.condF rfl (Bool.eq_false_iff.2 g12) ?_
      refine T.skip ?_
      refine X.seq_normal ?_
      refine T.seq ?_
      refine T.seq ?_
      obtain ⟨⟨⟩, e13, H⟩ := bd_some H
      refine T.regionL (ll := [0, 1, 2]) rfl ?_
      refine TO.loadA rfl rfl rfl rfl TWS4.a24 (List.Mem.tail _ (List.Mem.tail _ (List.Mem.head _))) rfl ?_
      refine TO.move rfl rfl rfl rfl ?_
      refine TO.callX TWS4.c72 rfl rfl rfl rfl (fun wc hwc => w_cut_across (n0 := n0) (s1 := s2) wc (h_n0_Arcs.mono hwc) (h_s2.mono hwc) e13) ?_
      rintro _ _ ⟨b14, b15, rfl, rfl⟩
      refine TO.done ?_
      refine X.seq_normal ?_
      refine T.block ?_
      obtain ⟨t_1, e_1, K_1⟩ := bd_some H
      refine T.rangeFunc (S := (Unit)) (X := (Unit)) (V := Int × Bool) rfl TWS4.c83 rfl rfl (fun v => [.int .i64 v.1, .bool v.2]) (fun _ => rfl) (fun s v => m_cut_Tight_y1 n0 f1 v.1 v.2) (fun t Hq => match t with | .inl _ => ∃ (u18 : Unit), Hq = [(some b5, .cells #[.bool false] 4 (0, 0))] | .inr _ => ∃ (u18 : Unit), Hq = [(some b5, .cells #[.bool false] 4 (0, 0))]) (fun _ => .ret) () t_1 [(some b5, .cells #[.bool false] 4 (0, 0))] [(some b14, .cells #[.int .i64 n0.N, .int .i64 n0.S, .int .i64 n0.T, .slice n0_Arcs_b n0_Arcs_n n0_Arcs_c] 24 (0, 0)), (some b15, .cells #[.slice s2_b s2_n s2_c] 31 (0, 0)), (some b3, .cells #[.slice f1_b f1_n f1_c] 25 (0, 0)), (some b1, .cells #[.int .i64 n0.N, .int .i64 n0.S, .int .i64 n0.T, .slice n0_Arcs_b n0_Arcs_n n0_Arcs_c] 24 (0, 0))] ⟨(), rfl⟩ (Pick.cons (Take.tail (Take.tail (Take.head _ _))) (Pick.refl _)) ?_ ?_ ?_ ?_
      · intro lp wc J_ H0_ hJ_ hin_ hY_ lo_ hwc hH0
        subst hH0
        exact w_cut_across_1 (yy_ := (fun s v => m_cut_Tight_y1 n0 f1 v.1 v.2)) (c1 := n0) (c2 := s2) (tt_ := .inl ()) (J_ := J_) wc hin_ hJ_ hY_ (h_n0_Arcs.monoM (by decide) hwc (List.Perm.refl _) rfl) (hwc.hbM (cs := [.int .i64 n0.N, .int .i64 n0.S, .int .i64 n0.T, .slice n0_Arcs_b n0_Arcs_n n0_Arcs_c]) (List.Perm.refl _) rfl (List.Mem.head _)) (h_s2.monoM (by decide) hwc (List.Perm.refl _) rfl) (hwc.hbM (cs := [.slice s2_b s2_n s2_c]) (List.Perm.refl _) rfl (List.Mem.tail _ (List.Mem.head _))) e_1
      · rintro lp w_1 _ ⟨y19, y20⟩ r_1 _ hy ⟨u18, rfl⟩ hs_1 ho_1
        refine ⟨[(3, .pointer (some ⟨b1, 0, none⟩)), (4, .pointer (some ⟨b3, 0, none⟩)), (6, .pointer (some ⟨b5, 0, none⟩)), (7, .int .i64 y19), (8, .bool y20)], [(some b5, .cells #[.bool false] 4 (0, 0))], ?_, ?_⟩
        ·
          refine T.seq ?_
          refine T.regionL (ll := [0]) rfl ?_
          refine TO.assign rfl rfl rfl rfl ?_
          refine TO.done ?_
          refine X.seq_normal ?_
          refine T.regionL (ll := [0]) rfl ?_
          refine TO.assign rfl rfl rfl rfl ?_
          refine TO.done ?_
          exact X.asg (AllF.cons rfl (AllF.cons rfl (AllF.cons rfl (AllF.cons rfl (AllF.cons rfl AllF.nil))))) (Pick.refl _)
        · intro w_2 hs_2 hwc
          have h_n0_Arcs := h_n0_Arcs.monoM (by decide) hwc (List.Perm.refl _) rfl
          have h_f1 := h_f1.monoM (by decide) hwc (List.Perm.refl _) rfl
          have h_s2 := h_s2.monoM (by decide) hwc (List.Perm.refl _) rfl
          have hb_e16 := hwc.hbM (cs := [.int .i64 n0.N, .int .i64 n0.S, .int .i64 n0.T, .slice n0_Arcs_b n0_Arcs_n n0_Arcs_c]) (List.Perm.refl _) rfl (List.Mem.head _)
          have hb_e17 := hwc.hbM (cs := [.slice s2_b s2_n s2_c]) (List.Perm.refl _) rfl (List.Mem.tail _ (List.Mem.head _))
          have hb_e2 := hwc.hbM (cs := [.int .i64 n0.N, .int .i64 n0.S, .int .i64 n0.T, .slice n0_Arcs_b n0_Arcs_n n0_Arcs_c]) (List.Perm.refl _) rfl (List.Mem.tail _ (List.Mem.tail _ (List.Mem.tail _ (List.Mem.head _))))
          have hb_e4 := hwc.hbM (cs := [.slice f1_b f1_n f1_c]) (List.Perm.refl _) rfl (List.Mem.tail _ (List.Mem.tail _ (List.Mem.head _)))
          have H : m_cut_Tight_y1 n0 f1 y19 y20 = some r_1 := hy
          unfold m_cut_Tight_y1 at H
          refine T.block ?_
          refine T.seq ?_
          rcases ite_some H with ⟨g21, H⟩ | ⟨g21, H⟩
          ·
            obtain ⟨g22, H⟩ := gd_some H
            obtain ⟨g23, H⟩ := gd_some H
            rcases ite_some H with ⟨g24, H⟩ | ⟨g24, H⟩
            ·
              refine T.drawS 20 [0, 1, 2, 3, 4, 5, 6, 7, 8, 9, 10, 11, 12, 13, 14, 15, 16, 17, 18, 19] rfl mixed (by kernel_rfl) (by kernel_rfl) rfl (by kernel_rfl) ?_
              refine TQ.move rfl rfl rfl rfl ?_
              refine TQ.move rfl rfl rfl rfl ?_
              refine TQ.decB (t := 25) (b' := true) rfl g21 ?_
              refine TQ.ldHB hb_e4 rfl rfl rfl rfl rfl TWS4.s25 ?_
              refine TQ.move rfl rfl rfl rfl ?_
              refine TQ.ixR h_f1 g22 rfl rfl rfl rfl rfl TWS4.l25 TWS4.n2 ?_
              refine TQ.ldIR h_f1 g22 rfl rfl rfl rfl TWS4.s2 ?_
              refine TQ.fieldAddr0 rfl rfl rfl rfl TWS4.f24_3 ?_
              refine TQ.ldHB hb_e2 rfl rfl rfl rfl rfl TWS4.s22 ?_
              refine TQ.move rfl rfl rfl rfl ?_
              refine TQ.ixR h_n0_Arcs g23 rfl rfl rfl rfl rfl TWS4.l22 TWS4.n28 ?_
              refine TQ.faR rfl rfl rfl rfl TWS4.f28_2 ?_
              refine TQ.ldFR (v := .int .i64 ((n0.Arcs.getD y19.toNat default).cap)) default h_n0_Arcs g23 rfl rfl rfl rfl rfl TWS4.s2 ?_
              refine TQ.bin rfl rfl rfl rfl rfl rfl ?_
              refine TQ.pickT rfl rfl rfl rfl rfl ?_
              refine TQ.move rfl rfl rfl rfl ?_
              refine TQ.decB (t := 38) (b' := true) rfl (decide_eq_true g24) ?_
              refine TQ.shut rfl rfl rfl rfl ?_
              refine TQ.shut rfl rfl rfl rfl ?_
              refine TQ.shut rfl rfl rfl rfl ?_
              refine TQ.shutU rfl rfl rfl rfl ?_
              refine TQ.shutU rfl rfl rfl rfl ?_
              refine TQ.tail [20, 21, 22, 23, 24] rfl rfl ?_
              refine TO.shutU rfl rfl rfl rfl ?_
              refine TO.shutU rfl rfl rfl rfl ?_
              refine TO.shutU rfl rfl rfl rfl ?_
              refine TO.shut rfl rfl rfl rfl ?_
              refine TO.pickT rfl rfl rfl rfl rfl ?_
              refine TO.done ?_
              refine X.seq_normal ?_
              refine T.trim (AllF.cons (t := 6) rfl (AllF.cons (t := 48) rfl AllF.nil)) ?_
              refine T.condT rfl rfl ?_
              refine T.seq ?_
              refine T.regionL (ll := [0]) rfl ?_
              refine TO.store1n (cs' := [.bool false]) rfl rfl rfl rfl (Take.head _ _) TWS4.n4 rfl rfl rfl ?_
              refine TO.done ?_
              refine X.seq_normal ?_
              refine T.ret ?_
              refine X.block_ret ?_
              exact X.rfRet H rfl ⟨(), rfl⟩ (Pick.cons (Take.head _ _) Pick.nil)
            ·
              rcases ite_some H with ⟨g25, H⟩ | ⟨g25, H⟩
              ·
                obtain ⟨g26, H⟩ := gd_some H
                refine T.drawS 20 [0, 1, 2, 3, 4, 5, 6, 7, 8, 9, 10, 11, 12, 13, 14, 15, 16, 17, 18, 19] rfl mixed (by kernel_rfl) (by kernel_rfl) rfl (by kernel_rfl) ?_
                refine TQ.move rfl rfl rfl rfl ?_
                refine TQ.move rfl rfl rfl rfl ?_
                refine TQ.decB (t := 25) (b' := true) rfl g21 ?_
                refine TQ.ldHB hb_e4 rfl rfl rfl rfl rfl TWS4.s25 ?_
                refine TQ.move rfl rfl rfl rfl ?_
                refine TQ.ixR h_f1 g22 rfl rfl rfl rfl rfl TWS4.l25 TWS4.n2 ?_
                refine TQ.ldIR h_f1 g22 rfl rfl rfl rfl TWS4.s2 ?_
                refine TQ.fieldAddr0 rfl rfl rfl rfl TWS4.f24_3 ?_
                refine TQ.ldHB hb_e2 rfl rfl rfl rfl rfl TWS4.s22 ?_
                refine TQ.move rfl rfl rfl rfl ?_
                refine TQ.ixR h_n0_Arcs g23 rfl rfl rfl rfl rfl TWS4.l22 TWS4.n28 ?_
                refine TQ.faR rfl rfl rfl rfl TWS4.f28_2 ?_
                refine TQ.ldFR (v := .int .i64 ((n0.Arcs.getD y19.toNat default).cap)) default h_n0_Arcs g23 rfl rfl rfl rfl rfl TWS4.s2 ?_
                refine TQ.bin rfl rfl rfl rfl rfl rfl ?_
                refine TQ.pickT rfl rfl rfl rfl rfl ?_
                refine TQ.move rfl rfl rfl rfl ?_
                refine TQ.decB (t := 38) (b' := false) rfl (decide_eq_false g24) ?_
                refine TQ.move rfl rfl rfl rfl ?_
                refine TQ.not rfl rfl rfl rfl ?_
                refine TQ.move rfl rfl rfl rfl ?_
                refine TQ.decB (t := 41) (b' := true) rfl g25 ?_
                refine TQ.ldHB hb_e4 rfl rfl rfl rfl rfl TWS4.s25 ?_
                refine TQ.move rfl rfl rfl rfl ?_
                refine TQ.tail [20, 21, 22, 23, 24] rfl rfl ?_
                refine TO.ixR h_f1 g26 rfl rfl rfl rfl rfl TWS4.l25 TWS4.n2 ?_
                refine TO.ldIR h_f1 g26 rfl rfl rfl rfl TWS4.s2 ?_
                refine TO.bin rfl rfl rfl rfl rfl rfl ?_
                refine TO.pickT rfl rfl rfl rfl rfl ?_
                refine TO.pickF rfl rfl rfl rfl rfl ?_
                refine TO.done ?_
                refine X.seq_normal ?_
                refine T.trim (AllF.cons (t := 6) rfl (AllF.cons (t := 48) rfl AllF.nil)) ?_
                rcases ite_some H with ⟨g27, H⟩ | ⟨g27, H⟩
                ·
                  refine T.condPT rfl g27 ?_
                  refine T.seq ?_
                  refine T.regionL (ll := [0]) rfl ?_
                  refine TO.store1n (cs' := [.bool false]) rfl rfl rfl rfl (Take.head _ _) TWS4.n4 rfl rfl rfl ?_
                  refine TO.done ?_
                  refine X.seq_normal ?_
                  refine T.ret ?_
                  refine X.block_ret ?_
                  exact X.rfRet H rfl ⟨(), rfl⟩ (Pick.cons (Take.head _ _) Pick.nil)
                ·
                  refine T.condPF rfl g27 ?_
                  refine T.skip ?_
                  refine X.block_normal ?_
                  exact X.rfNext H ⟨(), rfl⟩ (Pick.cons (Take.head _ _) Pick.nil)
              ·
                refine T.drawS 20 [0, 1, 2, 3, 4, 5, 6, 7, 8, 9, 10, 11, 12, 13, 14, 15, 16, 17, 18, 19] rfl mixed (by kernel_rfl) (by kernel_rfl) rfl (by kernel_rfl) ?_
                refine TQ.move rfl rfl rfl rfl ?_
                refine TQ.move rfl rfl rfl rfl ?_
                refine TQ.decB (t := 25) (b' := true) rfl g21 ?_
                refine TQ.ldHB hb_e4 rfl rfl rfl rfl rfl TWS4.s25 ?_
                refine TQ.move rfl rfl rfl rfl ?_
                refine TQ.ixR h_f1 g22 rfl rfl rfl rfl rfl TWS4.l25 TWS4.n2 ?_
                refine TQ.ldIR h_f1 g22 rfl rfl rfl rfl TWS4.s2 ?_
                refine TQ.fieldAddr0 rfl rfl rfl rfl TWS4.f24_3 ?_
                refine TQ.ldHB hb_e2 rfl rfl rfl rfl rfl TWS4.s22 ?_
                refine TQ.move rfl rfl rfl rfl ?_
                refine TQ.ixR h_n0_Arcs g23 rfl rfl rfl rfl rfl TWS4.l22 TWS4.n28 ?_
                refine TQ.faR rfl rfl rfl rfl TWS4.f28_2 ?_
                refine TQ.ldFR (v := .int .i64 ((n0.Arcs.getD y19.toNat default).cap)) default h_n0_Arcs g23 rfl rfl rfl rfl rfl TWS4.s2 ?_
                refine TQ.bin rfl rfl rfl rfl rfl rfl ?_
                refine TQ.pickT rfl rfl rfl rfl rfl ?_
                refine TQ.move rfl rfl rfl rfl ?_
                refine TQ.decB (t := 38) (b' := false) rfl (decide_eq_false g24) ?_
                refine TQ.move rfl rfl rfl rfl ?_
                refine TQ.not rfl rfl rfl rfl ?_
                refine TQ.move rfl rfl rfl rfl ?_
                refine TQ.decB (t := 41) (b' := false) rfl (Bool.eq_false_iff.2 g25) ?_
                refine TQ.shut rfl rfl rfl rfl ?_
                refine TQ.shut rfl rfl rfl rfl ?_
                refine TQ.tail [20, 21, 22, 23, 24] rfl rfl ?_
                refine TO.shut rfl rfl rfl rfl ?_
                refine TO.shut rfl rfl rfl rfl ?_
                refine TO.shut rfl rfl rfl rfl ?_
                refine TO.pickF rfl rfl rfl rfl rfl ?_
                refine TO.pickF rfl rfl rfl rfl rfl ?_
                refine TO.done ?_
                refine X.seq_normal ?_
                refine T.trim (AllF.cons (t := 6) rfl (AllF.cons (t := 48) rfl AllF.nil)) ?_
                refine T.condF rfl rfl ?_
                refine T.skip ?_
                refine X.block_normal ?_
                exact X.rfNext H ⟨(), rfl⟩ (Pick.cons (Take.head _ _) Pick.nil)
          ·
            rcases ite_some H with ⟨g28, H⟩ | ⟨g28, H⟩
            ·
              obtain ⟨g29, H⟩ := gd_some H
              refine T.drawS 20 [0, 1, 2, 3, 4, 5, 6, 7, 8, 9, 10, 11, 12, 13, 14, 15, 16, 17, 18, 19] rfl mixed (by kernel_rfl) (by kernel_rfl) rfl (by kernel_rfl) ?_
              refine TQ.move rfl rfl rfl rfl ?_
              refine TQ.move rfl rfl rfl rfl ?_
              refine TQ.decB (t := 25) (b' := false) rfl (Bool.eq_false_iff.2 g21) ?_
              refine TQ.shut rfl rfl rfl rfl ?_
              refine TQ.shut rfl rfl rfl rfl ?_
              refine TQ.shut rfl rfl rfl rfl ?_
              refine TQ.shut rfl rfl rfl rfl ?_
              refine TQ.shut rfl rfl rfl rfl ?_
              refine TQ.shut rfl rfl rfl rfl ?_
              refine TQ.shut rfl rfl rfl rfl ?_
              refine TQ.shut rfl rfl rfl rfl ?_
              refine TQ.shut rfl rfl rfl rfl ?_
              refine TQ.shut rfl rfl rfl rfl ?_
              refine TQ.shut rfl rfl rfl rfl ?_
              refine TQ.pickF rfl rfl rfl rfl rfl ?_
              refine TQ.move rfl rfl rfl rfl ?_
              refine TQ.move rfl rfl rfl rfl ?_
              refine TQ.not rfl rfl rfl rfl ?_
              refine TQ.move rfl rfl rfl rfl ?_
              refine TQ.decB (t := 41) (b' := true) rfl g28 ?_
              refine TQ.ldHB hb_e4 rfl rfl rfl rfl rfl TWS4.s25 ?_
              refine TQ.move rfl rfl rfl rfl ?_
              refine TQ.tail [20, 21, 22, 23, 24] rfl rfl ?_
              refine TO.ixR h_f1 g29 rfl rfl rfl rfl rfl TWS4.l25 TWS4.n2 ?_
              refine TO.ldIR h_f1 g29 rfl rfl rfl rfl TWS4.s2 ?_
              refine TO.bin rfl rfl rfl rfl rfl rfl ?_
              refine TO.pickT rfl rfl rfl rfl rfl ?_
              refine TO.pickF rfl rfl rfl rfl rfl ?_
              refine TO.done ?_
              refine X.seq_normal ?_
              refine T.trim (AllF.cons (t := 6) rfl (AllF.cons (t := 48) rfl AllF.nil)) ?_
              rcases ite_some H with ⟨g30, H⟩ | ⟨g30, H⟩
              ·
                refine T.condPT rfl g30 ?_
                refine T.seq ?_
                refine T.regionL (ll := [0]) rfl ?_
                refine TO.store1n (cs' := [.bool false]) rfl rfl rfl rfl (Take.head _ _) TWS4.n4 rfl rfl rfl ?_
                refine TO.done ?_
                refine X.seq_normal ?_
                refine T.ret ?_
                refine X.block_ret ?_
                exact X.rfRet H rfl ⟨(), rfl⟩ (Pick.cons (Take.head _ _) Pick.nil)
              ·
                refine T.condPF rfl g30 ?_
                refine T.skip ?_
                refine X.block_normal ?_
                exact X.rfNext H ⟨(), rfl⟩ (Pick.cons (Take.head _ _) Pick.nil)
            ·
              refine T.drawS 20 [0, 1, 2, 3, 4, 5, 6, 7, 8, 9, 10, 11, 12, 13, 14, 15, 16, 17, 18, 19] rfl mixed (by kernel_rfl) (by kernel_rfl) rfl (by kernel_rfl) ?_
              refine TQ.move rfl rfl rfl rfl ?_
              refine TQ.move rfl rfl rfl rfl ?_
              refine TQ.decB (t := 25) (b' := false) rfl (Bool.eq_false_iff.2 g21) ?_
              refine TQ.shut rfl rfl rfl rfl ?_
              refine TQ.shut rfl rfl rfl rfl ?_
              refine TQ.shut rfl rfl rfl rfl ?_
              refine TQ.shut rfl rfl rfl rfl ?_
              refine TQ.shut rfl rfl rfl rfl ?_
              refine TQ.shut rfl rfl rfl rfl ?_
              refine TQ.shut rfl rfl rfl rfl ?_
              refine TQ.shut rfl rfl rfl rfl ?_
              refine TQ.shut rfl rfl rfl rfl ?_
              refine TQ.shut rfl rfl rfl rfl ?_
              refine TQ.shut rfl rfl rfl rfl ?_
              refine TQ.pickF rfl rfl rfl rfl rfl ?_
              refine TQ.move rfl rfl rfl rfl ?_
              refine TQ.move rfl rfl rfl rfl ?_
              refine TQ.not rfl rfl rfl rfl ?_
              refine TQ.move rfl rfl rfl rfl ?_
              refine TQ.decB (t := 41) (b' := false) rfl (Bool.eq_false_iff.2 g28) ?_
              refine TQ.shut rfl rfl rfl rfl ?_
              refine TQ.shut rfl rfl rfl rfl ?_
              refine TQ.tail [20, 21, 22, 23, 24] rfl rfl ?_
              refine TO.shut rfl rfl rfl rfl ?_
              refine TO.shut rfl rfl rfl rfl ?_
              refine TO.shut rfl rfl rfl rfl ?_
              refine TO.pickF rfl rfl rfl rfl rfl ?_
              refine TO.pickF rfl rfl rfl rfl rfl ?_
              refine TO.done ?_
              refine X.seq_normal ?_
              refine T.trim (AllF.cons (t := 6) rfl (AllF.cons (t := 48) rfl AllF.nil)) ?_
              refine T.condF rfl rfl ?_
              refine T.skip ?_
              refine X.block_normal ?_
              exact X.rfNext H ⟨(), rfl⟩ (Pick.cons (Take.head _ _) Pick.nil)
      ·
        rintro _ ht rr_1 _ ⟨u18, rfl⟩
        subst ht
        have H : (some true) = some r0 := K_1
        refine X.reheap (H := [(some b5, .cells #[.bool false] 4 (0, 0)), (some rr_1, mkO), (some b14, .cells #[.int .i64 n0.N, .int .i64 n0.S, .int .i64 n0.T, .slice n0_Arcs_b n0_Arcs_n n0_Arcs_c] 24 (0, 0)), (some b15, .cells #[.slice s2_b s2_n s2_c] 31 (0, 0)), (some b3, .cells #[.slice f1_b f1_n f1_c] 25 (0, 0)), (some b1, .cells #[.int .i64 n0.N, .int .i64 n0.S, .int .i64 n0.T, .slice n0_Arcs_b n0_Arcs_n n0_Arcs_c] 24 (0, 0))]) rfl ?_
        refine X.block_normal ?_
        refine X.seq_normal ?_
        refine T.seq ?_
        refine T.regionL (ll := [0]) rfl ?_
        refine TO.store1n (cs' := [.bool true]) rfl rfl rfl rfl (Take.head _ _) TWS4.n4 rfl rfl rfl ?_
        refine TO.done ?_
        refine X.seq_normal ?_
        refine T.ret ?_
        obtain rfl := ret1 H
        exact X.retM1 [rr_1] rfl rfl rfl rfl rfl (Pick.cons (Take.tail (Take.head _ _)) (Pick.refl _)) (Res.cell1 rfl TWS4.s4 (List.Mem.head _) rfl) Pick.nil ⟨rfl, rfl⟩
      ·
        rintro _ ht rr_1 _ ⟨u18, rfl⟩
        subst ht
        have H : (some false) = some r0 := K_1
        refine T.reheap (H := [(some b5, .cells #[.bool false] 4 (0, 0)), (some rr_1, mkO), (some b14, .cells #[.int .i64 n0.N, .int .i64 n0.S, .int .i64 n0.T, .slice n0_Arcs_b n0_Arcs_n n0_Arcs_c] 24 (0, 0)), (some b15, .cells #[.slice s2_b s2_n s2_c] 31 (0, 0)), (some b3, .cells #[.slice f1_b f1_n f1_c] 25 (0, 0)), (some b1, .cells #[.int .i64 n0.N, .int .i64 n0.S, .int .i64 n0.T, .slice n0_Arcs_b n0_Arcs_n n0_Arcs_c] 24 (0, 0))]) rfl ?_
        refine T.ret ?_
        refine X.block_ret ?_
        refine X.then_ret ?_
        obtain rfl := ret1 H
        exact X.retM1 [rr_1] rfl rfl rfl rfl rfl (Pick.cons (Take.tail (Take.head _ _)) (Pick.refl _)) (Res.cell1 rfl TWS4.s4 (List.Mem.head _) rfl) Pick.nil ⟨rfl, rfl⟩
/-- acequia/cut.left -/
theorem w_cut_left {n0 : Net} {f1 : List Int} {n0_Arcs_b : Option Addr} {n0_Arcs_n : Nat} {n0_Arcs_c : Nat} {f1_b : Option Addr} {f1_n : Nat} {f1_c : Nat} (w : World) (h_n0_Arcs : RS w [] arcC 3 n0_Arcs_b n0_Arcs_n n0_Arcs_c n0.Arcs) (h_f1 : RS w [] (intC .i64) 1 f1_b f1_n f1_c f1) {r0 : Csr} {r1 : List Int} {r2 : Int} (H : m_cut_left n0 f1 = some (r0, r1, r2)) : Fnc Try.prog 67 #[.agg #[.int .i64 n0.N, .int .i64 n0.S, .int .i64 n0.T, .slice n0_Arcs_b n0_Arcs_n n0_Arcs_c], .slice f1_b f1_n f1_c] w [] (fun v N => ∃ (ob_0 : Option Nat) (n_0 : Nat) (c_0 : Nat) (j_0 : List Value) (ob_4 : Option Nat) (n_4 : Nat) (c_4 : Nat) (j_4 : List Value) (ob_8 : Option Nat) (n_8 : Nat) (c_8 : Nat) (j_8 : List Value) (ob_12 : Option Nat) (n_12 : Nat) (c_12 : Nat) (j_12 : List Value) (ob_16 : Option Nat) (n_16 : Nat) (c_16 : Nat) (j_16 : List Value) (ob_20 : Option Nat) (n_20 : Nat) (c_20 : Nat) (j_20 : List Value) (ob_24 : Option Nat) (n_24 : Nat) (c_24 : Nat) (j_24 : List Value), v = .tuple #[.agg #[.int .i64 r0.N, .int .i64 r0.S, .int .i64 r0.T, .slice (sb ob_0) n_0 c_0, .slice (sb ob_4) n_4 c_4, .slice (sb ob_8) n_8 c_8, .slice (sb ob_12) n_12 c_12, .slice (sb ob_16) n_16 c_16, .slice (sb ob_20) n_20 c_20], .slice (sb ob_24) n_24 c_24, .int .i64 r2] ∧ N = [(ob_0, .cells (arr (intC .i64) r0.First j_0).toArray 3 (0, 0)), (ob_4, .cells (arr (intC .i64) r0.Head j_4).toArray 3 (0, 0)), (ob_8, .cells (arr (intC .i64) r0.Rev j_8).toArray 3 (0, 0)), (ob_12, .cells (arr (intC .i64) r0.Cap j_12).toArray 2 (0, 0)), (ob_16, .cells (arr (intC .i64) r0.Arc j_16).toArray 3 (0, 0)), (ob_20, .cells (arr boolC r0.Back j_20).toArray 4 (0, 0)), (ob_24, .cells (arr (intC .i64) r1 j_24).toArray 2 (0, 0))] ∧ r0.First.length = n_0 ∧ n_0 ≤ c_0 ∧ j_0.length = (c_0 - n_0) * 1 ∧ (ob_0 = none → c_0 = 0) ∧ r0.Head.length = n_4 ∧ n_4 ≤ c_4 ∧ j_4.length = (c_4 - n_4) * 1 ∧ (ob_4 = none → c_4 = 0) ∧ r0.Rev.length = n_8 ∧ n_8 ≤ c_8 ∧ j_8.length = (c_8 - n_8) * 1 ∧ (ob_8 = none → c_8 = 0) ∧ r0.Cap.length = n_12 ∧ n_12 ≤ c_12 ∧ j_12.length = (c_12 - n_12) * 1 ∧ (ob_12 = none → c_12 = 0) ∧ r0.Arc.length = n_16 ∧ n_16 ≤ c_16 ∧ j_16.length = (c_16 - n_16) * 1 ∧ (ob_16 = none → c_16 = 0) ∧ r0.Back.length = n_20 ∧ n_20 ≤ c_20 ∧ j_20.length = (c_20 - n_20) * 1 ∧ (ob_20 = none → c_20 = 0) ∧ r1.length = n_24 ∧ n_24 ≤ c_24 ∧ j_24.length = (c_24 - n_24) * 1 ∧ (ob_24 = none → c_24 = 0)) := by
  unfold m_cut_left at H
  refine Fnc.enter (vs := [.agg #[.int .i64 n0.N, .int .i64 n0.S, .int .i64 n0.T, .slice n0_Arcs_b n0_Arcs_n n0_Arcs_c], .slice f1_b f1_n f1_c]) Try.func67 rfl rfl (Inv.refl w) ?_
  refine T.seq ?_
  refine T.regionL (ll := [0, 1, 2, 3]) rfl ?_
  refine TO.boxA rfl rfl rfl rfl ?_; intro b1
  refine TO.allocA rfl rfl rfl TWS4.z33 ?_; intro b3
  refine TO.assign rfl rfl rfl rfl ?_
  refine TO.assign rfl rfl rfl rfl ?_
  refine TO.done ?_
  refine X.seq_normal ?_
  refine T.seq ?_
  refine T.seq ?_
  obtain ⟨r5, e6, H⟩ := bd_some H
  refine T.regionL (ll := [0, 1, 2, 3]) rfl ?_
  refine TO.loadA rfl rfl rfl rfl TWS4.a24 (List.Mem.tail _ (List.Mem.head _)) rfl ?_
  refine TO.move rfl rfl rfl rfl ?_
  refine TO.callX TWS4.c28 rfl rfl rfl rfl (fun wc hwc => w_flow_Within (n0 := n0) (f1 := f1) wc (h_n0_Arcs.mono hwc) (h_f1.mono hwc) e6) ?_
  rintro _ _ ⟨rfl, rfl⟩
  refine TO.not rfl rfl rfl rfl ?_
  refine TO.done ?_
  refine X.seq_normal ?_
  rcases ite_some H with ⟨g7, H⟩ | ⟨g7, H⟩
  ·
    refine T.condT rfl g7 ?_
    refine T.seq ?_
    refine T.regionL (ll := [0, 1, 2, 3]) rfl ?_
    refine TO.buildS (t := 33) [.int .i64 0, .int .i64 0, .int .i64 0, .slice none 0 0, .slice none 0 0, .slice none 0 0, .slice none 0 0, .slice none 0 0, .slice none 0 0] [0, 1, 2, 3, 4, 5, 6, 7, 8] rfl rfl rfl rfl (by simp only [setAll, setCells, Value.cells, List.toList_toArray, List.getD_cons_zero, List.getD_cons_succ, List.set_cons_zero, List.set_cons_succ]; rfl) (by kernel_rfl) ?_
    refine TO.storeA rfl rfl rfl rfl (Take.head _ _) TWS4.n33 rfl rfl rfl ?_
    refine TO.assign rfl rfl rfl rfl ?_
    refine TO.assign rfl rfl rfl rfl ?_
    refine TO.done ?_
    refine X.seq_normal ?_
    refine T.trim (AllF.cons (t := 4) rfl (AllF.cons (t := 5) rfl (AllF.cons (t := 6) rfl AllF.nil))) ?_
    refine T.ret ?_
    refine X.then_ret ?_
    obtain ⟨rfl, rfl, rfl⟩ := ret3 H
    exact X.ret3 rfl rfl rfl rfl (Res.cellA rfl TWS4.a33 (List.Mem.head _) rfl) (Res.tmp rfl) (Res.tmp rfl) (Pick.none (Pick.none (Pick.none (Pick.none (Pick.none (Pick.none (Pick.none Pick.nil))))))) ⟨none, 0, 0, ([]), none, 0, 0, ([]), none, 0, 0, ([]), none, 0, 0, ([]), none, 0, 0, ([]), none, 0, 0, ([]), none, 0, 0, ([]), rfl, rfl, rfl, (Nat.le_refl _), (zeroJ 0 _), (fun _ => rfl), rfl, (Nat.le_refl _), (zeroJ 0 _), (fun _ => rfl), rfl, (Nat.le_refl _), (zeroJ 0 _), (fun _ => rfl), rfl, (Nat.le_refl _), (zeroJ 0 _), (fun _ => rfl), rfl, (Nat.le_refl _), (zeroJ 0 _), (fun _ => rfl), rfl, (Nat.le_refl _), (zeroJ 0 _), (fun _ => rfl), rfl, (Nat.le_refl _), (zeroJ 0 _), (fun _ => rfl)⟩
  ·
    refine T.condF rfl (Bool.eq_false_iff.2 g7) ?_
    refine T.skip ?_
    refine X.seq_normal ?_
    refine T.seq ?_
    obtain ⟨⟨r8, r9⟩, e10, H⟩ := bd_some H
    refine T.regionL (ll := [0, 1, 2, 3, 4, 5, 6, 7]) rfl ?_
    refine TO.loadA rfl rfl rfl rfl TWS4.a24 (List.Mem.tail _ (List.Mem.head _)) rfl ?_
    refine TO.callX TWS4.c19 rfl rfl rfl rfl (fun wc hwc => w_csr_Make (n0 := n0) wc (h_n0_Arcs.mono hwc) e10) ?_
    rintro _ _ ⟨ob11, n12, c13, j14, ob15, n16, c17, j18, ob19, n20, c21, j22, ob23, n24, c25, j26, ob27, n28, c29, j30, ob31, n32, c33, j34, rfl, rfl, hn35, hc36, hj37, hz38, hn39, hc40, hj41, hz42, hn43, hc44, hj45, hz46, hn47, hc48, hj49, hz50, hn51, hc52, hj53, hz54, hn55, hc56, hj57, hz58⟩
    refine TO.move rfl rfl rfl rfl ?_
    refine TO.extract rfl rfl rfl rfl rfl ?_
    refine TO.extract rfl rfl rfl rfl rfl ?_
    refine TO.allocA rfl rfl rfl TWS4.z33 ?_; intro b65
    refine TO.storeA rfl rfl rfl rfl (Take.head _ _) TWS4.n33 rfl rfl rfl ?_
    refine TO.assign rfl rfl rfl rfl ?_
    refine TO.done ?_
    refine X.seq_normal ?_
    refine T.trim (AllF.cons (t := 1) rfl (AllF.cons (t := 4) rfl (AllF.cons (t := 7) rfl (AllF.cons (t := 8) rfl AllF.nil)))) ?_
    refine T.seq ?_
    refine T.seq ?_
    refine T.regionL (ll := [0, 1]) rfl ?_
    refine TO.move rfl rfl rfl rfl ?_
    refine TO.bin rfl rfl rfl rfl rfl rfl ?_
    refine TO.done ?_
    refine X.seq_normal ?_
    rcases ite_some H with ⟨g67, H⟩ | ⟨g67, H⟩
    ·
      refine T.condPT rfl g67 ?_
      refine T.seq ?_
      refine T.regionL (ll := [0, 1, 2, 3, 4]) rfl ?_
      refine TO.loadA rfl rfl rfl rfl TWS4.a33 (List.Mem.head _) rfl ?_
      refine TO.move rfl rfl rfl rfl ?_
      refine TO.storeA rfl rfl rfl rfl (Take.tail (Take.tail (Take.tail (Take.tail (Take.tail (Take.tail (Take.tail (Take.head _ _)))))))) TWS4.n33 rfl rfl rfl ?_
      refine TO.assign rfl rfl rfl rfl ?_
      refine TO.assign rfl rfl rfl rfl ?_
      refine TO.done ?_
      refine X.seq_normal ?_
      refine T.ret ?_
      refine X.then_ret ?_
      obtain ⟨rfl, rfl, rfl⟩ := ret3 H
      exact X.ret3 rfl rfl rfl rfl (Res.cellA rfl TWS4.a33 (List.Mem.head _) rfl) (Res.tmp rfl) (Res.tmp rfl) (Pick.cons (Take.tail (Take.tail (Take.head _ _))) (Pick.cons (Take.tail (Take.tail (Take.head _ _))) (Pick.cons (Take.tail (Take.tail (Take.head _ _))) (Pick.cons (Take.tail (Take.tail (Take.head _ _))) (Pick.cons (Take.tail (Take.tail (Take.head _ _))) (Pick.cons (Take.tail (Take.tail (Take.head _ _))) (Pick.none Pick.nil))))))) ⟨ob11, n12, c13, j14, ob15, n16, c17, j18, ob19, n20, c21, j22, ob23, n24, c25, j26, ob27, n28, c29, j30, ob31, n32, c33, j34, none, 0, 0, ([]), rfl, rfl, hn35, hc36, hj37, hz38, hn39, hc40, hj41, hz42, hn43, hc44, hj45, hz46, hn47, hc48, hj49, hz50, hn51, hc52, hj53, hz54, hn55, hc56, hj57, hz58, rfl, (Nat.le_refl _), (zeroJ 0 _), (fun _ => rfl)⟩
    ·
      refine T.condPF rfl g67 ?_
      refine T.skip ?_
      refine X.seq_normal ?_
      refine T.seq ?_
      obtain ⟨⟨r68, r69⟩, e70, H⟩ := bd_some H
      refine T.regionL (ll := [0, 1, 2, 3, 4, 5, 6, 7]) rfl ?_
      refine TO.loadA rfl rfl rfl rfl TWS4.a33 (List.Mem.head _) rfl ?_
      refine TO.move rfl rfl rfl rfl ?_
      refine TO.callX TWS4.c20 rfl rfl rfl rfl (fun wc hwc => w_csr_Res (c0 := r8) (f1 := f1) wc (hwc.rs (f := (intC .i64)) (s := 1) (xs := r8.First) (j := j14) (fun _ => rfl) (List.Mem.tail _ (List.Mem.head _)) hn35 hc36 hz38) (hwc.rs (f := (intC .i64)) (s := 1) (xs := r8.Head) (j := j18) (fun _ => rfl) (List.Mem.tail _ (List.Mem.tail _ (List.Mem.head _))) hn39 hc40 hz42) (hwc.rs (f := (intC .i64)) (s := 1) (xs := r8.Rev) (j := j22) (fun _ => rfl) (List.Mem.tail _ (List.Mem.tail _ (List.Mem.tail _ (List.Mem.head _)))) hn43 hc44 hz46) (hwc.rs (f := (intC .i64)) (s := 1) (xs := r8.Cap) (j := j26) (fun _ => rfl) (List.Mem.tail _ (List.Mem.tail _ (List.Mem.tail _ (List.Mem.tail _ (List.Mem.head _))))) hn47 hc48 hz50) (hwc.rs (f := (intC .i64)) (s := 1) (xs := r8.Arc) (j := j30) (fun _ => rfl) (List.Mem.tail _ (List.Mem.tail _ (List.Mem.tail _ (List.Mem.tail _ (List.Mem.tail _ (List.Mem.head _)))))) hn51 hc52 hz54) (hwc.rs (f := boolC) (s := 1) (xs := r8.Back) (j := j34) (fun _ => rfl) (List.Mem.tail _ (List.Mem.tail _ (List.Mem.tail _ (List.Mem.tail _ (List.Mem.tail _ (List.Mem.tail _ (List.Mem.head _))))))) hn55 hc56 hz58) (h_f1.mono hwc) e70) ?_
      rintro _ _ ⟨ob71, n72, c73, j74, rfl, rfl, hn75, hc76, hj77, hz78⟩
      refine TO.move rfl rfl rfl rfl ?_
      refine TO.extract rfl rfl rfl rfl rfl ?_
      refine TO.extract rfl rfl rfl rfl rfl ?_
      refine TO.assign rfl rfl rfl rfl ?_
      refine TO.assign rfl rfl rfl rfl ?_
      refine TO.done ?_
      refine X.seq_normal ?_
      refine T.trim (AllF.cons (t := 4) rfl (AllF.cons (t := 7) rfl (AllF.cons (t := 8) rfl (AllF.cons (t := 9) rfl AllF.nil)))) ?_
      refine T.seq ?_
      refine T.regionL (ll := [0, 1, 2, 3, 4, 5]) rfl ?_
      refine TO.loadA rfl rfl rfl rfl TWS4.a33 (List.Mem.tail _ (List.Mem.head _)) rfl ?_
      refine TO.move rfl rfl rfl rfl ?_
      refine TO.move rfl rfl rfl rfl ?_
      refine TO.storeA rfl rfl rfl rfl (Take.tail (Take.tail (Take.tail (Take.tail (Take.tail (Take.tail (Take.tail (Take.tail (Take.head _ _))))))))) TWS4.n33 rfl rfl rfl ?_
      refine TO.assign rfl rfl rfl rfl ?_
      refine TO.assign rfl rfl rfl rfl ?_
      refine TO.done ?_
      refine X.seq_normal ?_
      refine T.ret ?_
      obtain ⟨rfl, rfl, rfl⟩ := ret3 H
      exact X.ret3 rfl rfl rfl rfl (Res.cellA rfl TWS4.a33 (List.Mem.head _) rfl) (Res.tmp rfl) (Res.tmp rfl) (Pick.cons (Take.tail (Take.tail (Take.tail (Take.head _ _)))) (Pick.cons (Take.tail (Take.tail (Take.tail (Take.head _ _)))) (Pick.cons (Take.tail (Take.tail (Take.tail (Take.head _ _)))) (Pick.cons (Take.tail (Take.tail (Take.tail (Take.head _ _)))) (Pick.cons (Take.tail (Take.tail (Take.tail (Take.head _ _)))) (Pick.cons (Take.tail (Take.tail (Take.tail (Take.head _ _)))) (Pick.cons (Take.tail (Take.head _ _)) Pick.nil))))))) ⟨ob11, n12, c13, j14, ob15, n16, c17, j18, ob19, n20, c21, j22, ob23, n24, c25, j26, ob27, n28, c29, j30, ob31, n32, c33, j34, ob71, n72, c73, j74, rfl, rfl, hn35, hc36, hj37, hz38, hn39, hc40, hj41, hz42, hn43, hc44, hj45, hz46, hn47, hc48, hj49, hz50, hn51, hc52, hj53, hz54, hn55, hc56, hj57, hz58, hn75, hc76, hj77, hz78⟩
/-- acequia/cut.From$1 -/
theorem w_cut_From_1 {a0 : Int} {c1 : List Int} {c1_k : Nat} {c1_b : Option Addr} {c1_n : Nat} {c1_c : Nat} (w : World) (h_c1 : RS w [] (intC .i64) 1 c1_b c1_n c1_c c1) (h_c1_k : HB w [] c1_k [.slice c1_b c1_n c1_c]) {r0 : Bool} (H : m_cut_From_1 a0 c1 = some r0) : Fnc Try.prog 69 #[.int .i64 a0, .pointer (some ⟨c1_k, 0, none⟩)] w [] (fun v N => v = .bool r0 ∧ N = []) := by
  unfold m_cut_From_1 at H
  refine Fnc.enter (vs := [.int .i64 a0, .pointer (some ⟨c1_k, 0, none⟩)]) Try.func69 rfl rfl (Inv.refl w) ?_
  refine T.seq ?_
  refine T.regionL (ll := [0]) rfl ?_
  refine TO.assign rfl rfl rfl rfl ?_
  refine TO.done ?_
  refine X.seq_normal ?_
  refine T.seq ?_
  obtain ⟨g1, H⟩ := gd_some H
  refine T.regionL (ll := [0, 1, 2, 3, 4, 5]) rfl ?_
  refine TO.ldHB h_c1_k rfl rfl rfl rfl rfl TWS4.s25 ?_
  refine TO.move rfl rfl rfl rfl ?_
  refine TO.ixR h_c1 g1 rfl rfl rfl rfl rfl TWS4.l25 TWS4.n2 ?_
  refine TO.ldIR h_c1 g1 rfl rfl rfl rfl TWS4.s2 ?_
  refine TO.bin rfl rfl rfl rfl rfl rfl ?_
  refine TO.assign rfl rfl rfl rfl ?_
  refine TO.done ?_
  refine X.seq_normal ?_
  refine T.ret ?_
  obtain rfl := ret1 H
  exact X.ret1 rfl rfl rfl rfl (Res.tmp rfl) Pick.nil ⟨rfl, rfl⟩
/-- acequia/cut.met$1 -/
theorem w_cut_met_1 {v0 : Int} {c1 : List Bool} {c2 : List Int} {c1_k : Nat} {c1_o : Option Nat} {c1_n : Nat} {c1_c : Nat} {c1_j : List Value} {c2_k : Nat} {c2_o : Option Nat} {c2_n : Nat} {c2_c : Nat} {c2_j : List Value} (w : World) (hin : Inv w (([(some c1_k, .cells #[.slice (sb c1_o) c1_n c1_c] 31 (0, 0)), (c1_o, .cells (arr boolC c1 c1_j).toArray 4 (0, 0)), (some c2_k, .cells #[.slice (sb c2_o) c2_n c2_c] 30 (0, 0)), (c2_o, .cells (arr (intC .i64) c2 c2_j).toArray 3 (0, 0))] : Heap).filterMap (·.1)) w [(some c1_k, .cells #[.slice (sb c1_o) c1_n c1_c] 31 (0, 0)), (c1_o, .cells (arr boolC c1 c1_j).toArray 4 (0, 0)), (some c2_k, .cells #[.slice (sb c2_o) c2_n c2_c] 30 (0, 0)), (c2_o, .cells (arr (intC .i64) c2 c2_j).toArray 3 (0, 0))]) (h_c1_l : c1.length = c1_n) (h_c1_c : c1_n ≤ c1_c) (h_c1_j : c1_j.length = (c1_c - c1_n) * 1) (h_c1_z : (c1_o = none → c1_c = 0)) (h_c2_l : c2.length = c2_n) (h_c2_c : c2_n ≤ c2_c) (h_c2_j : c2_j.length = (c2_c - c2_n) * 1) (h_c2_z : (c2_o = none → c2_c = 0)) {o0 : List Bool} {o1 : List Int} (H : m_cut_met_1 v0 c1 c2 = some (o0, o1)) : Fnc Try.prog 82 #[.int .i64 v0, .pointer (some ⟨c1_k, 0, none⟩), .pointer (some ⟨c2_k, 0, none⟩)] w (([(some c1_k, .cells #[.slice (sb c1_o) c1_n c1_c] 31 (0, 0)), (c1_o, .cells (arr boolC c1 c1_j).toArray 4 (0, 0)), (some c2_k, .cells #[.slice (sb c2_o) c2_n c2_c] 30 (0, 0)), (c2_o, .cells (arr (intC .i64) c2 c2_j).toArray 3 (0, 0))] : Heap).filterMap (·.1)) (fun v N => ∃ (ob_0 : Option Nat) (n_0 : Nat) (c_0 : Nat) (j_0 : List Value), v = .tuple #[] ∧ N = [(some c1_k, .cells #[.slice (sb c1_o) c1_n c1_c] 31 (0, 0)), (c1_o, .cells (arr boolC o0 c1_j).toArray 4 (0, 0)), (some c2_k, .cells #[.slice (sb ob_0) n_0 c_0] 30 (0, 0)), (ob_0, .cells (arr (intC .i64) o1 j_0).toArray 3 (0, 0))] ∧ o0.length = c1_n ∧ o1.length = n_0 ∧ n_0 ≤ c_0 ∧ j_0.length = (c_0 - n_0) * 1 ∧ (ob_0 = none → c_0 = 0)) := by
  unfold m_cut_met_1 at H
  refine Fnc.enter (vs := [.int .i64 v0, .pointer (some ⟨c1_k, 0, none⟩), .pointer (some ⟨c2_k, 0, none⟩)]) Try.func82 rfl rfl hin ?_
  refine T.seq ?_
  obtain ⟨g5, H⟩ := gd_some H
  refine T.regionL (ll := [0, 1, 2, 3, 4]) rfl ?_
  refine TO.load1 rfl rfl rfl rfl TWS4.s31 (List.Mem.head _) rfl ?_
  refine TO.move rfl rfl rfl rfl ?_
  refine TO.ixV h_c1_z h_c1_c h_c1_l g5 rfl rfl rfl rfl rfl TWS4.l31 TWS4.n4 ?_
  refine TO.ldBV h_c1_z h_c1_c h_c1_l g5 rfl rfl rfl rfl TWS4.s4 (List.Mem.tail _ (List.Mem.head _)) ?_
  refine TO.not rfl rfl rfl rfl ?_
  refine TO.done ?_
  refine X.seq_normal ?_
  rcases ite_some H with ⟨g6, H⟩ | ⟨g6, H⟩
  ·
    refine T.condT rfl g6 ?_
    refine T.seq ?_
    obtain ⟨g7, H⟩ := gd_some H
    refine T.regionL (ll := [0, 1, 2, 3]) rfl ?_
    refine TO.load1 rfl rfl rfl rfl TWS4.s31 (List.Mem.head _) rfl ?_
    refine TO.move rfl rfl rfl rfl ?_
    refine TO.ixV h_c1_z h_c1_c h_c1_l g7 rfl rfl rfl rfl rfl TWS4.l31 TWS4.n4 ?_
    refine TO.stBV h_c1_z h_c1_c h_c1_l g7 rfl rfl rfl rfl (Take.tail (Take.head _ _)) TWS4.n4 ?_
    refine TO.done ?_
    refine X.seq_normal ?_
    refine T.trim (AllF.cons (t := 0) rfl (AllF.cons (t := 2) rfl AllF.nil)) ?_
    obtain ⟨g10, H⟩ := gd_some H
    refine T.regionL (ll := [0, 1, 2, 3, 4]) rfl ?_
    refine TO.load1 rfl rfl rfl rfl TWS4.s30 (List.Mem.tail _ (List.Mem.tail _ (List.Mem.head _))) rfl ?_
    refine TO.move rfl rfl rfl rfl ?_
    refine TO.buildSliceS [.int .i64 0] [0] rfl rfl rfl rfl TWS4.l30 TWS4.n3 TWS4.z3 rfl rfl (by simp only [setAll, setCells, Value.cells, List.toList_toArray, List.getD_cons_zero, List.getD_cons_succ, List.set_cons_zero, List.set_cons_succ]; rfl) (by kernel_rfl) ?_; intro b8
    refine TO.app (f := (intC .i64)) (s := 1) (xs := c2) (ob := c2_o) (j := c2_j) (ys := [v0]) (fun _ => rfl) (fun _ => rfl) TWS4el30 g10 rfl rfl rfl rfl rfl (Take.tail (Take.tail (Take.tail (Take.tail (Take.head _ _))))) h_c2_l h_c2_c h_c2_j h_c2_z (fun wc hwc => (hwc.rs (f := (intC .i64)) (s := 1) (xs := [v0]) (j := ([])) (fun _ => rfl) (List.Mem.head _) rfl (Nat.le_refl _) someZ)) ?_; intro ob11 c12 j13 hc14 hj15 hz16
    refine TO.store1n (cs' := [.slice (sb ob11) (c2_n + 1) c12]) rfl rfl rfl rfl (Take.tail (Take.tail (Take.tail (Take.tail (Take.head _ _))))) TWS4.n30 rfl rfl rfl ?_
    refine TO.done ?_
    refine X.fall ?_
    obtain ⟨rfl, rfl⟩ := ret2 H
    exact X.ret0 rfl rfl rfl rfl  (Pick.cons (Take.tail (Take.tail (Take.tail (Take.tail (Take.head _ _))))) (Pick.cons (Take.tail (Take.tail (Take.tail (Take.head _ _)))) (Pick.cons (Take.head _ _) (Pick.cons (Take.head _ _) Pick.nil)))) ⟨ob11, (c2_n + 1), c12, j13, rfl, rfl, (List.length_set.trans h_c1_l), (lenApp h_c2_l rfl), hc14, hj15, hz16⟩
  ·
    refine T.condF rfl (Bool.eq_false_iff.2 g6) ?_
    refine T.skip ?_
    refine X.fall ?_
    obtain ⟨rfl, rfl⟩ := ret2 H
    exact X.ret0 rfl rfl rfl rfl  (Pick.cons (Take.head _ _) (Pick.cons (Take.head _ _) (Pick.cons (Take.head _ _) (Pick.cons (Take.head _ _) Pick.nil)))) ⟨c2_o, c2_n, c2_c, c2_j, rfl, rfl, h_c1_l, h_c2_l, h_c2_c, h_c2_j, h_c2_z⟩
/-- acequia/cut.met -/
theorem w_cut_met_From_1 {c0 : Csr} {from1 : Int} {may2_0 : List Int} {c0_First_b : Option Addr} {c0_First_n : Nat} {c0_First_c : Nat} {c0_Head_b : Option Addr} {c0_Head_n : Nat} {c0_Head_c : Nat} {c0_Rev_b : Option Addr} {c0_Rev_n : Nat} {c0_Rev_c : Nat} {c0_Cap_b : Option Addr} {c0_Cap_n : Nat} {c0_Cap_c : Nat} {c0_Arc_b : Option Addr} {c0_Arc_n : Nat} {c0_Arc_c : Nat} {c0_Back_b : Option Addr} {c0_Back_n : Nat} {c0_Back_c : Nat} {may2_0_k : Nat} {may2_0_b : Option Addr} {may2_0_n : Nat} {may2_0_c : Nat} (w : World) (h_c0_First : RS w [] (intC .i64) 1 c0_First_b c0_First_n c0_First_c c0.First) (h_c0_Head : RS w [] (intC .i64) 1 c0_Head_b c0_Head_n c0_Head_c c0.Head) (h_c0_Rev : RS w [] (intC .i64) 1 c0_Rev_b c0_Rev_n c0_Rev_c c0.Rev) (h_c0_Cap : RS w [] (intC .i64) 1 c0_Cap_b c0_Cap_n c0_Cap_c c0.Cap) (h_c0_Arc : RS w [] (intC .i64) 1 c0_Arc_b c0_Arc_n c0_Arc_c c0.Arc) (h_c0_Back : RS w [] boolC 1 c0_Back_b c0_Back_n c0_Back_c c0.Back) (h_may2_0 : RS w [] (intC .i64) 1 may2_0_b may2_0_n may2_0_c may2_0) (h_may2_0_k : HB w [] may2_0_k [.slice may2_0_b may2_0_n may2_0_c]) {r0 : List Bool} (H : m_cut_met_From_1 c0 from1 may2_0 = some r0) : Fnc Try.prog 68 #[.agg #[.int .i64 c0.N, .int .i64 c0.S, .int .i64 c0.T, .slice c0_First_b c0_First_n c0_First_c, .slice c0_Head_b c0_Head_n c0_Head_c, .slice c0_Rev_b c0_Rev_n c0_Rev_c, .slice c0_Cap_b c0_Cap_n c0_Cap_c, .slice c0_Arc_b c0_Arc_n c0_Arc_c, .slice c0_Back_b c0_Back_n c0_Back_c], .int .i64 from1, .func (.func 69) #[] #[.pointer (some ⟨may2_0_k, 0, none⟩)]] w [] (fun v N => ∃ (ob_0 : Option Nat) (n_0 : Nat) (c_0 : Nat) (j_0 : List Value), v = .slice (sb ob_0) n_0 c_0 ∧ N = [(ob_0, .cells (arr boolC r0 j_0).toArray 4 (0, 0))] ∧ r0.length = n_0 ∧ n_0 ≤ c_0 ∧ j_0.length = (c_0 - n_0) * 1 ∧ (ob_0 = none → c_0 = 0)) := by
  unfold m_cut_met_From_1 at H
  refine Fnc.enter (vs := [.agg #[.int .i64 c0.N, .int .i64 c0.S, .int .i64 c0.T, .slice c0_First_b c0_First_n c0_First_c, .slice c0_Head_b c0_Head_n c0_Head_c, .slice c0_Rev_b c0_Rev_n c0_Rev_c, .slice c0_Cap_b c0_Cap_n c0_Cap_c, .slice c0_Arc_b c0_Arc_n c0_Arc_c, .slice c0_Back_b c0_Back_n c0_Back_c], .int .i64 from1, .func (.func 69) #[] #[.pointer (some ⟨may2_0_k, 0, none⟩)]]) Try.func68 rfl rfl (Inv.refl w) ?_
  refine T.seq ?_
  refine T.regionL (ll := [0, 1]) rfl ?_
  refine TO.boxA rfl rfl rfl rfl ?_; intro b1
  refine TO.assign rfl rfl rfl rfl ?_
  refine TO.done ?_
  refine X.seq_normal ?_
  refine T.seq ?_
  obtain ⟨g3, H⟩ := gd_some H
  refine T.regionL (ll := [0, 1, 2, 3, 4]) rfl ?_
  refine TO.fieldAddr0 rfl rfl rfl rfl TWS4.f33_0 ?_
  refine TO.load1 rfl rfl rfl rfl TWS4.s3 (List.Mem.head _) rfl ?_
  refine TO.mkB g3 rfl rfl rfl rfl rfl TWS4.l31 TWS4.n4 TWS4.z4 TWS4.b4 rfl ?_; intro b4
  refine TO.alloc rfl rfl rfl TWS4.z31 ?_; intro b6
  refine TO.store1n (cs' := [.slice (some ⟨b4, 0, none⟩) c0.N.toNat c0.N.toNat]) rfl rfl rfl rfl (Take.head _ _) TWS4.n31 rfl rfl rfl ?_
  refine TO.done ?_
  refine X.seq_normal ?_
  refine T.seq ?_
  obtain ⟨g8, H⟩ := gd_some H
  refine T.regionL (ll := [0, 1, 2, 3]) rfl ?_
  refine TO.load1 rfl rfl rfl rfl TWS4.s31 (List.Mem.head _) rfl ?_
  refine TO.move rfl rfl rfl rfl ?_
  refine TO.ix1 List.length_replicate g8 rfl rfl rfl rfl rfl TWS4.l31 TWS4.n4 ?_
  refine TO.stBO g8 rfl rfl rfl rfl (Take.tail (Take.head _ _)) TWS4.n4 ?_
  refine TO.done ?_
  refine X.seq_normal ?_
  refine T.trim (AllF.cons (t := 1) rfl (AllF.cons (t := 2) rfl (AllF.cons (t := 3) rfl (AllF.cons (t := 7) rfl AllF.nil)))) ?_
  refine T.seq ?_
  refine T.regionL (ll := [0, 1, 2, 3]) rfl ?_
  refine TO.move rfl rfl rfl rfl ?_
  refine TO.buildSliceS [.int .i64 0] [0] rfl rfl rfl rfl TWS4.l30 TWS4.n3 TWS4.z3 rfl rfl (by simp only [setAll, setCells, Value.cells, List.toList_toArray, List.getD_cons_zero, List.getD_cons_succ, List.set_cons_zero, List.set_cons_succ]; rfl) (by kernel_rfl) ?_; intro b9
  refine TO.alloc rfl rfl rfl TWS4.z30 ?_; intro b11
  refine TO.store1n (cs' := [.slice (some ⟨b9, 0, none⟩) 1 1]) rfl rfl rfl rfl (Take.head _ _) TWS4.n30 rfl rfl rfl ?_
  refine TO.done ?_
  refine X.seq_normal ?_
  refine T.seq ?_
  refine T.regionL (ll := [0, 1]) rfl ?_
  refine TO.makeFunc rfl rfl rfl rfl rfl ?_
  refine TO.assign rfl rfl rfl rfl ?_
  refine TO.done ?_
  refine X.seq_normal ?_
  refine T.seq ?_
  refine T.seq ?_
  refine T.regionL (ll := [0]) rfl ?_
  refine TO.assign rfl rfl rfl rfl ?_
  refine TO.done ?_
  refine X.seq_normal ?_
  refine T.meetSE1 (fun (xs78 : List Bool) => m_cut_met_From_1_j4 xs78 = some r0 ∧ xs78.length = c0.N.toNat) (fun (xs78 : List Bool) => [(7, .pointer (some ⟨b6, 0, none⟩))]) (fun (xs78 : List Bool) => [(some b6, .cells #[.slice (some ⟨b4, 0, none⟩) c0.N.toNat c0.N.toNat] 31 (0, 0)), (some b4, .cells (arr boolC xs78 ([])).toArray 4 (0, 0))]) ?_ ?_
  ·
    refine T.block ?_
    obtain ⟨o_1, e_1, K_1⟩ := bd_some H
    refine T.loopE8 (fun (m_1 : Nat) (xs13 : List Bool) (row15 : List Int) (n16 : Nat) (c17 : Nat) (ob18 : Option Nat) (j19 : List Value) (i25 : Int) => loopM (fun s => m_cut_met_From_1_s1 c0 may2_0 s.1 s.2.1 s.2.2) m_1 (xs13, row15, i25) = some o_1 ∧ xs13.length = c0.N.toNat ∧ row15.length = n16 ∧ n16 ≤ c17 ∧ j19.length = (c17 - n16) * 1 ∧ (ob18 = none → c17 = 0)) (fun (m_1 : Nat) (xs13 : List Bool) (row15 : List Int) (n16 : Nat) (c17 : Nat) (ob18 : Option Nat) (j19 : List Value) (i25 : Int) => [(2, .func (.func 69) #[] #[.pointer (some ⟨may2_0_k, 0, none⟩)]), (3, .pointer (some ⟨b1, 0, none⟩)), (7, .pointer (some ⟨b6, 0, none⟩)), (8, .pointer (some ⟨b11, 0, none⟩)), (9, .func (.func 82) #[] #[.pointer (some ⟨b6, 0, none⟩), .pointer (some ⟨b11, 0, none⟩)]), (10, .int .i64 i25)]) (fun (m_1 : Nat) (xs13 : List Bool) (row15 : List Int) (n16 : Nat) (c17 : Nat) (ob18 : Option Nat) (j19 : List Value) (i25 : Int) => [(some b1, .cells #[.int .i64 c0.N, .int .i64 c0.S, .int .i64 c0.T, .slice c0_First_b c0_First_n c0_First_c, .slice c0_Head_b c0_Head_n c0_Head_c, .slice c0_Rev_b c0_Rev_n c0_Rev_c, .slice c0_Cap_b c0_Cap_n c0_Cap_c, .slice c0_Arc_b c0_Arc_n c0_Arc_c, .slice c0_Back_b c0_Back_n c0_Back_c] 33 (0, 0)), (some b6, .cells #[.slice (some ⟨b4, 0, none⟩) c0.N.toNat c0.N.toNat] 31 (0, 0)), (some b4, .cells (arr boolC xs13 ([])).toArray 4 (0, 0)), (some b11, .cells #[.slice (sb ob18) n16 c17] 30 (0, 0)), (ob18, .cells (arr (intC .i64) row15 j19).toArray 3 (0, 0))]) (fun (m_1 : Nat) (xs13 : List Bool) (row15 : List Int) (n16 : Nat) (c17 : Nat) (ob18 : Option Nat) (j19 : List Value) (i25 : Int) => m_1) FUEL ((List.replicate c0.N.toNat (false : Bool)).set from1.toNat true) ([from1]) 1 1 (some b9) ([]) 0 ⟨e_1, (List.length_set.trans List.length_replicate), rfl, (Nat.le_refl _), (zeroJ _ _), someZ⟩ (AllF.cons rfl (AllF.cons rfl (AllF.cons rfl (AllF.cons rfl (AllF.cons rfl (AllF.cons rfl AllF.nil)))))) (Pick.cons (Take.tail (Take.tail (Take.tail (Take.tail (Take.head _ _))))) (Pick.cons (Take.tail (Take.tail (Take.tail (Take.head _ _)))) (Pick.cons (Take.tail (Take.tail (Take.head _ _))) (Pick.cons (Take.head _ _) (Pick.cons (Take.head _ _) Pick.nil))))) ?_
    rintro m_1 xs13 row15 n16 c17 ob18 j19 i25 ⟨H, hn14, hn20, hc21, hj22, hz23⟩
    obtain ⟨n_1, r_1, rfl, H, C_1⟩ := loopM_some H
    have H : m_cut_met_From_1_s1 c0 may2_0 xs13 row15 i25 = some r_1 := H
    unfold m_cut_met_From_1_s1 at H
    refine T.seq ?_
    refine T.seq ?_
    refine T.regionL (ll := [0, 1, 2, 3]) rfl ?_
    refine TO.move rfl rfl rfl rfl ?_
    refine TO.load1 rfl rfl rfl rfl TWS4.s30 (List.Mem.tail _ (List.Mem.tail _ (List.Mem.tail _ (List.Mem.head _)))) rfl ?_
    refine TO.lenX (xs := row15) hn20 rfl rfl rfl rfl rfl TWS4.l30 ?_
    refine TO.bin rfl rfl rfl rfl rfl rfl ?_
    refine TO.done ?_
    refine X.seq_normal ?_
    rcases ite_some H with ⟨g26, H⟩ | ⟨g26, H⟩
    ·
      refine T.condPT rfl g26 ?_
      refine T.skip ?_
      refine X.seq_normal ?_
      refine T.seq ?_
      refine T.meetSE6 (fun (xs65 : List Bool) (row67 : List Int) (n68 : Nat) (c69 : Nat) (ob70 : Option Nat) (j71 : List Value) => m_cut_met_From_1_j3 i25 xs65 row67 = some r_1 ∧ xs65.length = c0.N.toNat ∧ row67.length = n68 ∧ n68 ≤ c69 ∧ j71.length = (c69 - n68) * 1 ∧ (ob70 = none → c69 = 0)) (fun (xs65 : List Bool) (row67 : List Int) (n68 : Nat) (c69 : Nat) (ob70 : Option Nat) (j71 : List Value) => [(2, .func (.func 69) #[] #[.pointer (some ⟨may2_0_k, 0, none⟩)]), (3, .pointer (some ⟨b1, 0, none⟩)), (7, .pointer (some ⟨b6, 0, none⟩)), (8, .pointer (some ⟨b11, 0, none⟩)), (9, .func (.func 82) #[] #[.pointer (some ⟨b6, 0, none⟩), .pointer (some ⟨b11, 0, none⟩)]), (10, .int .i64 i25)]) (fun (xs65 : List Bool) (row67 : List Int) (n68 : Nat) (c69 : Nat) (ob70 : Option Nat) (j71 : List Value) => [(some b1, .cells #[.int .i64 c0.N, .int .i64 c0.S, .int .i64 c0.T, .slice c0_First_b c0_First_n c0_First_c, .slice c0_Head_b c0_Head_n c0_Head_c, .slice c0_Rev_b c0_Rev_n c0_Rev_c, .slice c0_Cap_b c0_Cap_n c0_Cap_c, .slice c0_Arc_b c0_Arc_n c0_Arc_c, .slice c0_Back_b c0_Back_n c0_Back_c] 33 (0, 0)), (some b6, .cells #[.slice (some ⟨b4, 0, none⟩) c0.N.toNat c0.N.toNat] 31 (0, 0)), (some b4, .cells (arr boolC xs65 ([])).toArray 4 (0, 0)), (some b11, .cells #[.slice (sb ob70) n68 c69] 30 (0, 0)), (ob70, .cells (arr (intC .i64) row67 j71).toArray 3 (0, 0))]) ?_ ?_
      ·
        refine T.block ?_
        refine T.seq ?_
        obtain ⟨g27, H⟩ := gd_some H
        obtain ⟨g28, H⟩ := gd_some H
        refine T.drawS 6 [0, 1, 2, 3, 4, 5] rfl mixed (by kernel_rfl) (by kernel_rfl) rfl (by kernel_rfl) ?_
        refine TQ.fieldAddr0 rfl rfl rfl rfl TWS4.f33_3 ?_
        refine TQ.load1 rfl rfl rfl rfl TWS4.s30 (List.Mem.head _) rfl ?_
        refine TQ.load1 rfl rfl rfl rfl TWS4.s30 (List.Mem.tail _ (List.Mem.tail _ (List.Mem.tail _ (List.Mem.head _)))) rfl ?_
        refine TQ.move rfl rfl rfl rfl ?_
        refine TQ.ixV hz23 hc21 hn20 g27 rfl rfl rfl rfl rfl TWS4.l30 TWS4.n3 ?_
        refine TQ.ldIV hz23 hc21 hn20 g27 rfl rfl rfl rfl TWS4.s3 (List.Mem.tail _ (List.Mem.tail _ (List.Mem.tail _ (List.Mem.tail _ (List.Mem.head _))))) ?_
        refine TQ.tail [6, 7, 8] rfl rfl ?_
        refine TO.ixR h_c0_First g28 rfl rfl rfl rfl rfl TWS4.l30 TWS4.n3 ?_
        refine TO.ldIR h_c0_First g28 rfl rfl rfl rfl TWS4.s3 ?_
        refine TO.assign rfl rfl rfl rfl ?_
        refine TO.done ?_
        refine X.seq_normal ?_
        refine T.trim (AllF.cons (t := 2) rfl (AllF.cons (t := 3) rfl (AllF.cons (t := 7) rfl (AllF.cons (t := 8) rfl (AllF.cons (t := 9) rfl (AllF.cons (t := 10) rfl (AllF.cons (t := 11) rfl AllF.nil))))))) ?_
        refine T.block ?_
        obtain ⟨o_2, e_2, K_2⟩ := bd_some H
        refine T.loopE8 (fun (m_2 : Nat) (xs29 : List Bool) (row31 : List Int) (n32 : Nat) (c33 : Nat) (ob34 : Option Nat) (j35 : List Value) (a41 : Int) => loopM (fun s => m_cut_met_From_1_s2 c0 may2_0 i25 s.1 s.2.1 s.2.2) m_2 (xs29, row31, a41) = some o_2 ∧ xs29.length = c0.N.toNat ∧ row31.length = n32 ∧ n32 ≤ c33 ∧ j35.length = (c33 - n32) * 1 ∧ (ob34 = none → c33 = 0)) (fun (m_2 : Nat) (xs29 : List Bool) (row31 : List Int) (n32 : Nat) (c33 : Nat) (ob34 : Option Nat) (j35 : List Value) (a41 : Int) => [(2, .func (.func 69) #[] #[.pointer (some ⟨may2_0_k, 0, none⟩)]), (3, .pointer (some ⟨b1, 0, none⟩)), (7, .pointer (some ⟨b6, 0, none⟩)), (8, .pointer (some ⟨b11, 0, none⟩)), (9, .func (.func 82) #[] #[.pointer (some ⟨b6, 0, none⟩), .pointer (some ⟨b11, 0, none⟩)]), (10, .int .i64 i25), (11, .int .i64 a41)]) (fun (m_2 : Nat) (xs29 : List Bool) (row31 : List Int) (n32 : Nat) (c33 : Nat) (ob34 : Option Nat) (j35 : List Value) (a41 : Int) => [(some b1, .cells #[.int .i64 c0.N, .int .i64 c0.S, .int .i64 c0.T, .slice c0_First_b c0_First_n c0_First_c, .slice c0_Head_b c0_Head_n c0_Head_c, .slice c0_Rev_b c0_Rev_n c0_Rev_c, .slice c0_Cap_b c0_Cap_n c0_Cap_c, .slice c0_Arc_b c0_Arc_n c0_Arc_c, .slice c0_Back_b c0_Back_n c0_Back_c] 33 (0, 0)), (some b6, .cells #[.slice (some ⟨b4, 0, none⟩) c0.N.toNat c0.N.toNat] 31 (0, 0)), (some b4, .cells (arr boolC xs29 ([])).toArray 4 (0, 0)), (some b11, .cells #[.slice (sb ob34) n32 c33] 30 (0, 0)), (ob34, .cells (arr (intC .i64) row31 j35).toArray 3 (0, 0))]) (fun (m_2 : Nat) (xs29 : List Bool) (row31 : List Int) (n32 : Nat) (c33 : Nat) (ob34 : Option Nat) (j35 : List Value) (a41 : Int) => m_2) FUEL xs13 row15 n16 c17 ob18 j19 (c0.First.getD (row15.getD i25.toNat 0).toNat 0) ⟨e_2, hn14, hn20, hc21, hj22, hz23⟩ (AllF.cons rfl (AllF.cons rfl (AllF.cons rfl (AllF.cons rfl (AllF.cons rfl (AllF.cons rfl (AllF.cons rfl AllF.nil))))))) (Pick.cons (Take.head _ _) (Pick.cons (Take.head _ _) (Pick.cons (Take.head _ _) (Pick.cons (Take.head _ _) (Pick.cons (Take.head _ _) Pick.nil))))) ?_
        rintro m_2 xs29 row31 n32 c33 ob34 j35 a41 ⟨H, hn30, hn36, hc37, hj38, hz39⟩
        obtain ⟨n_2, r_2, rfl, H, C_2⟩ := loopM_some H
        have H : m_cut_met_From_1_s2 c0 may2_0 i25 xs29 row31 a41 = some r_2 := H
        unfold m_cut_met_From_1_s2 at H
        refine T.seq ?_
        refine T.seq ?_
        obtain ⟨g42, H⟩ := gd_some H
        obtain ⟨g43, H⟩ := gd_some H
        obtain ⟨g44, H⟩ := gd_some H
        refine T.drawS 10 [0, 1, 2, 3, 4, 5, 6, 7, 8, 9] rfl mixed (by kernel_rfl) (by kernel_rfl) rfl (by kernel_rfl) ?_
        refine TQ.move rfl rfl rfl rfl ?_
        refine TQ.fieldAddr0 rfl rfl rfl rfl TWS4.f33_3 ?_
        refine TQ.load1 rfl rfl rfl rfl TWS4.s30 (List.Mem.head _) rfl ?_
        refine TQ.load1 rfl rfl rfl rfl TWS4.s30 (List.Mem.tail _ (List.Mem.tail _ (List.Mem.tail _ (List.Mem.head _)))) rfl ?_
        refine TQ.move rfl rfl rfl rfl ?_
        refine TQ.ixV hz39 hc37 hn36 g42 rfl rfl rfl rfl rfl TWS4.l30 TWS4.n3 ?_
        refine TQ.ldIV hz39 hc37 hn36 g42 rfl rfl rfl rfl TWS4.s3 (List.Mem.tail _ (List.Mem.tail _ (List.Mem.tail _ (List.Mem.tail _ (List.Mem.head _))))) ?_
        refine TQ.addG g43 rfl rfl rfl rfl rfl ?_
        refine TQ.ixR h_c0_First g44 rfl rfl rfl rfl rfl TWS4.l30 TWS4.n3 ?_
        refine TQ.ldIR h_c0_First g44 rfl rfl rfl rfl TWS4.s3 ?_
        refine TQ.tail [10] rfl rfl ?_
        refine TO.bin rfl rfl rfl rfl rfl rfl ?_
        refine TO.done ?_
        refine X.seq_normal ?_
        refine T.trim (AllF.cons (t := 2) rfl (AllF.cons (t := 3) rfl (AllF.cons (t := 7) rfl (AllF.cons (t := 8) rfl (AllF.cons (t := 9) rfl (AllF.cons (t := 10) rfl (AllF.cons (t := 11) rfl (AllF.cons (t := 45) rfl AllF.nil)))))))) ?_
        rcases ite_some H with ⟨g45, H⟩ | ⟨g45, H⟩
        ·
          refine T.condPT rfl g45 ?_
          refine T.skip ?_
          refine X.seq_normal ?_
          refine T.seq ?_
          refine T.block ?_
          refine T.seq ?_
          obtain ⟨r46, e47, H⟩ := bd_some H
          refine T.regionL (ll := [0, 1, 2]) rfl ?_
          refine TO.move rfl rfl rfl rfl ?_
          refine TO.move rfl rfl rfl rfl ?_
          refine TO.callVX TWS4.c69 rfl rfl rfl rfl rfl (fun wc hwc => w_cut_From_1 (a0 := a41) (c1 := may2_0) wc (h_may2_0.mono hwc) (h_may2_0_k.mono hwc) e47) ?_
          rintro _ _ ⟨rfl, rfl⟩
          refine TO.done ?_
          refine X.seq_normal ?_
          rcases ite_some H with ⟨g48, H⟩ | ⟨g48, H⟩
          ·
            refine T.condT rfl g48 ?_
            obtain ⟨g49, H⟩ := gd_some H
            obtain ⟨⟨r50, r51⟩, e52, H⟩ := bd_some H
            refine T.regionL (ll := [0, 1, 2, 3, 4, 5, 6]) rfl ?_
            refine TO.move rfl rfl rfl rfl ?_
            refine TO.fieldAddr0 rfl rfl rfl rfl TWS4.f33_4 ?_
            refine TO.load1 rfl rfl rfl rfl TWS4.s30 (List.Mem.head _) rfl ?_
            refine TO.move rfl rfl rfl rfl ?_
            refine TO.ixR h_c0_Head g49 rfl rfl rfl rfl rfl TWS4.l30 TWS4.n3 ?_
            refine TO.ldIR h_c0_Head g49 rfl rfl rfl rfl TWS4.s3 ?_
            refine TO.callVXM TWS4.c82 rfl rfl rfl rfl rfl (Take.gone (Take.tail (Take.head _ _)) (Take.gone (Take.tail (Take.head _ _)) (Take.gone (Take.tail (Take.head _ _)) (Take.gone (Take.tail (Take.head _ _)) (List.Perm.refl _))))) rfl (fun wc hwc => w_cut_met_1 (v0 := (c0.Head.getD a41.toNat 0)) (c1 := xs29) (c2 := row31) wc (hwc.self (Pick.cons (Take.tail (Take.head _ _)) (Pick.cons (Take.tail (Take.head _ _)) (Pick.cons (Take.tail (Take.head _ _)) (Pick.cons (Take.tail (Take.head _ _)) Pick.nil)))) rfl) hn30 (Nat.le_refl _) (zeroJ _ _) someZ hn36 hc37 hj38 hz39 e52) ?_
            rintro _ _ ⟨ob53, n54, c55, j56, rfl, rfl, hn57, hn58, hc59, hj60, hz61⟩
            refine TO.done ?_
            refine X.block_normal ?_
            refine X.seq_normal ?_
            refine T.trim (AllF.cons (t := 2) rfl (AllF.cons (t := 3) rfl (AllF.cons (t := 7) rfl (AllF.cons (t := 8) rfl (AllF.cons (t := 9) rfl (AllF.cons (t := 10) rfl (AllF.cons (t := 11) rfl AllF.nil))))))) ?_
            obtain ⟨g63, H⟩ := gd_some H
            refine T.regionL (ll := [0, 1, 2]) rfl ?_
            refine TO.move rfl rfl rfl rfl ?_
            refine TO.addG g63 rfl rfl rfl rfl rfl ?_
            refine TO.assign rfl rfl rfl rfl ?_
            refine TO.done ?_
            have H := loop_next H C_2
            exact X.againE8 n_2 r50 r51 n54 c55 ob53 j56 (a41 + 1) ⟨H, hn57, hn58, hc59, hj60, hz61⟩ (Nat.lt_succ_self _) (AllF.cons rfl (AllF.cons rfl (AllF.cons rfl (AllF.cons rfl (AllF.cons rfl (AllF.cons rfl (AllF.cons rfl AllF.nil))))))) (Pick.cons (Take.tail (Take.tail (Take.tail (Take.tail (Take.head _ _))))) (Pick.cons (Take.head _ _) (Pick.cons (Take.head _ _) (Pick.cons (Take.head _ _) (Pick.cons (Take.head _ _) Pick.nil)))))
          ·
            refine T.condF rfl (Bool.eq_false_iff.2 g48) ?_
            refine T.skip ?_
            refine X.block_normal ?_
            refine X.seq_normal ?_
            obtain ⟨g64, H⟩ := gd_some H
            refine T.regionL (ll := [0, 1, 2]) rfl ?_
            refine TO.move rfl rfl rfl rfl ?_
            refine TO.addG g64 rfl rfl rfl rfl rfl ?_
            refine TO.assign rfl rfl rfl rfl ?_
            refine TO.done ?_
            have H := loop_next H C_2
            exact X.againE8 n_2 xs29 row31 n32 c33 ob34 j35 (a41 + 1) ⟨H, hn30, hn36, hc37, hj38, hz39⟩ (Nat.lt_succ_self _) (AllF.cons rfl (AllF.cons rfl (AllF.cons rfl (AllF.cons rfl (AllF.cons rfl (AllF.cons rfl (AllF.cons rfl AllF.nil))))))) (Pick.cons (Take.head _ _) (Pick.cons (Take.head _ _) (Pick.cons (Take.head _ _) (Pick.cons (Take.head _ _) (Pick.cons (Take.head _ _) Pick.nil)))))
        ·
          refine T.condPF rfl g45 ?_
          refine T.exit ?_
          refine X.then_exit ?_
          have H := loop_exitE H C_2 ▸ K_2
          refine X.then_exit ?_
          refine X.block_here ?_
          refine X.block_normal ?_
          exact X.metE6 xs29 row31 n32 c33 ob34 j35 ⟨H, hn30, hn36, hc37, hj38, hz39⟩ (AllF.cons rfl (AllF.cons rfl (AllF.cons rfl (AllF.cons rfl (AllF.cons rfl (AllF.cons rfl AllF.nil)))))) (Pick.cons (Take.head _ _) (Pick.cons (Take.head _ _) (Pick.cons (Take.head _ _) (Pick.cons (Take.head _ _) (Pick.cons (Take.head _ _) Pick.nil)))))
      · rintro xs65 row67 n68 c69 ob70 j71 ⟨H, hn66, hn72, hc73, hj74, hz75⟩
        unfold m_cut_met_From_1_j3 at H
        obtain ⟨g77, H⟩ := gd_some H
        refine T.regionL (ll := [0, 1, 2]) rfl ?_
        refine TO.move rfl rfl rfl rfl ?_
        refine TO.addG g77 rfl rfl rfl rfl rfl ?_
        refine TO.assign rfl rfl rfl rfl ?_
        refine TO.done ?_
        have H := loop_next H C_1
        exact X.againE8 n_1 xs65 row67 n68 c69 ob70 j71 (i25 + 1) ⟨H, hn66, hn72, hc73, hj74, hz75⟩ (Nat.lt_succ_self _) (AllF.cons rfl (AllF.cons rfl (AllF.cons rfl (AllF.cons rfl (AllF.cons rfl (AllF.cons rfl AllF.nil)))))) (Pick.cons (Take.head _ _) (Pick.cons (Take.head _ _) (Pick.cons (Take.head _ _) (Pick.cons (Take.head _ _) (Pick.cons (Take.head _ _) Pick.nil)))))
    ·
      refine T.condPF rfl g26 ?_
      refine T.exit ?_
      refine X.then_exit ?_
      have H := loop_exitE H C_1 ▸ K_1
      refine X.then_exit ?_
      refine X.block_here ?_
      exact X.metE1 xs13 ⟨H, hn14⟩ (AllF.cons rfl AllF.nil) (Pick.cons (Take.tail (Take.head _ _)) (Pick.cons (Take.tail (Take.head _ _)) Pick.nil))
  · rintro xs78 ⟨H, hn79⟩
    unfold m_cut_met_From_1_j4 at H
    refine T.seq ?_
    refine T.regionL (ll := [0, 1]) rfl ?_
    refine TO.load1 rfl rfl rfl rfl TWS4.s31 (List.Mem.head _) rfl ?_
    refine TO.assign rfl rfl rfl rfl ?_
    refine TO.done ?_
    refine X.seq_normal ?_
    refine T.ret ?_
    obtain rfl := ret1 H
    exact X.ret1 rfl rfl rfl rfl (Res.tmp rfl) (Pick.cons (Take.tail (Take.head _ _)) Pick.nil) ⟨(some b4), c0.N.toNat, c0.N.toNat, ([]), rfl, rfl, hn79, (Nat.le_refl _), (zeroJ _ _), someZ⟩
/-- acequia/cut.From -/
theorem w_cut_From {n0 : Net} {f1 : List Int} {n0_Arcs_b : Option Addr} {n0_Arcs_n : Nat} {n0_Arcs_c : Nat} {f1_b : Option Addr} {f1_n : Nat} {f1_c : Nat} (w : World) (h_n0_Arcs : RS w [] arcC 3 n0_Arcs_b n0_Arcs_n n0_Arcs_c n0.Arcs) (h_f1 : RS w [] (intC .i64) 1 f1_b f1_n f1_c f1) {r0 : List Bool} {r1 : Int} (H : m_cut_From n0 f1 = some (r0, r1)) : Fnc Try.prog 39 #[.agg #[.int .i64 n0.N, .int .i64 n0.S, .int .i64 n0.T, .slice n0_Arcs_b n0_Arcs_n n0_Arcs_c], .slice f1_b f1_n f1_c] w [] (fun v N => ∃ (ob_0 : Option Nat) (n_0 : Nat) (c_0 : Nat) (j_0 : List Value), v = .tuple #[.slice (sb ob_0) n_0 c_0, .int .i64 r1] ∧ N = [(ob_0, .cells (arr boolC r0 j_0).toArray 4 (0, 0))] ∧ r0.length = n_0 ∧ n_0 ≤ c_0 ∧ j_0.length = (c_0 - n_0) * 1 ∧ (ob_0 = none → c_0 = 0)) := by
  unfold m_cut_From at H
  refine Fnc.enter (vs := [.agg #[.int .i64 n0.N, .int .i64 n0.S, .int .i64 n0.T, .slice n0_Arcs_b n0_Arcs_n n0_Arcs_c], .slice f1_b f1_n f1_c]) Try.func39 rfl rfl (Inv.refl w) ?_
  refine T.seq ?_
  refine T.regionL (ll := [0, 1, 2]) rfl ?_
  refine TO.boxA rfl rfl rfl rfl ?_; intro b1
  refine TO.assign rfl rfl rfl rfl ?_
  refine TO.assign rfl rfl rfl rfl ?_
  refine TO.done ?_
  refine X.seq_normal ?_
  refine T.seq ?_
  obtain ⟨⟨r3, r4, r5⟩, e6, H⟩ := bd_some H
  refine T.regionL (ll := [0, 1, 2, 3, 4, 5, 6, 7, 8, 9, 10, 11]) rfl ?_
  refine TO.loadA rfl rfl rfl rfl TWS4.a24 (List.Mem.head _) rfl ?_
  refine TO.move rfl rfl rfl rfl ?_
  refine TO.callX TWS4.c67 rfl rfl rfl rfl (fun wc hwc => w_cut_left (n0 := n0) (f1 := f1) wc (h_n0_Arcs.mono hwc) (h_f1.mono hwc) e6) ?_
  rintro _ _ ⟨ob7, n8, c9, j10, ob11, n12, c13, j14, ob15, n16, c17, j18, ob19, n20, c21, j22, ob23, n24, c25, j26, ob27, n28, c29, j30, ob31, n32, c33, j34, rfl, rfl, hn35, hc36, hj37, hz38, hn39, hc40, hj41, hz42, hn43, hc44, hj45, hz46, hn47, hc48, hj49, hz50, hn51, hc52, hj53, hz54, hn55, hc56, hj57, hz58, hn59, hc60, hj61, hz62⟩
  refine TO.move rfl rfl rfl rfl ?_
  refine TO.extract rfl rfl rfl rfl rfl ?_
  refine TO.extract rfl rfl rfl rfl rfl ?_
  refine TO.extract rfl rfl rfl rfl rfl ?_
  refine TO.allocA rfl rfl rfl TWS4.z33 ?_; intro b70
  refine TO.alloc rfl rfl rfl TWS4.z25 ?_; intro b72
  refine TO.storeA rfl rfl rfl rfl (Take.tail (Take.head _ _)) TWS4.n33 rfl rfl rfl ?_
  refine TO.store1n (cs' := [.slice (sb ob31) n32 c33]) rfl rfl rfl rfl (Take.tail (Take.head _ _)) TWS4.n25 rfl rfl rfl ?_
  refine TO.assign rfl rfl rfl rfl ?_
  refine TO.done ?_
  refine X.seq_normal ?_
  refine T.trim (AllF.cons (t := 2) rfl (AllF.cons (t := 6) rfl (AllF.cons (t := 7) rfl (AllF.cons (t := 8) rfl AllF.nil)))) ?_
  refine T.seq ?_
  refine T.seq ?_
  refine T.regionL (ll := [0, 1]) rfl ?_
  refine TO.move rfl rfl rfl rfl ?_
  refine TO.bin rfl rfl rfl rfl rfl rfl ?_
  refine TO.done ?_
  refine X.seq_normal ?_
  rcases ite_some H with ⟨g74, H⟩ | ⟨g74, H⟩
  ·
    refine T.condPT rfl g74 ?_
    refine T.seq ?_
    refine T.regionL (ll := [0, 1, 2]) rfl ?_
    refine TO.move rfl rfl rfl rfl ?_
    refine TO.assign rfl rfl rfl rfl ?_
    refine TO.assign rfl rfl rfl rfl ?_
    refine TO.done ?_
    refine X.seq_normal ?_
    refine T.ret ?_
    refine X.then_ret ?_
    obtain ⟨rfl, rfl⟩ := ret2 H
    exact X.ret2 rfl rfl rfl rfl (Res.tmp rfl) (Res.tmp rfl) (Pick.none Pick.nil) ⟨none, 0, 0, ([]), rfl, rfl, rfl, (Nat.le_refl _), (zeroJ 0 _), (fun _ => rfl)⟩
  ·
    refine T.condPF rfl g74 ?_
    refine T.skip ?_
    refine X.seq_normal ?_
    refine T.seq ?_
    obtain ⟨r75, e76, H⟩ := bd_some H
    refine T.regionL (ll := [0, 1, 2, 3, 4, 5, 6]) rfl ?_
    refine TO.loadA rfl rfl rfl rfl TWS4.a33 (List.Mem.tail _ (List.Mem.head _)) rfl ?_
    refine TO.fieldAddr0 rfl rfl rfl rfl TWS4.f24_1 ?_
    refine TO.load1 rfl rfl rfl rfl TWS4.s3 (List.Mem.tail _ (List.Mem.tail _ (List.Mem.tail _ (List.Mem.tail _ (List.Mem.tail _ (List.Mem.tail _ (List.Mem.tail _ (List.Mem.tail _ (List.Mem.tail _ (List.Mem.head _)))))))))) rfl ?_
    refine TO.makeFunc rfl rfl rfl rfl rfl ?_
    refine TO.callX TWS4.c68 rfl rfl rfl rfl (fun wc hwc => w_cut_met_From_1 (c0 := r3) (from1 := n0.S) (may2_0 := r4) wc (hwc.rs (f := (intC .i64)) (s := 1) (xs := r3.First) (j := j10) (fun _ => rfl) (List.Mem.tail _ (List.Mem.tail _ (List.Mem.head _))) hn35 hc36 hz38) (hwc.rs (f := (intC .i64)) (s := 1) (xs := r3.Head) (j := j14) (fun _ => rfl) (List.Mem.tail _ (List.Mem.tail _ (List.Mem.tail _ (List.Mem.head _)))) hn39 hc40 hz42) (hwc.rs (f := (intC .i64)) (s := 1) (xs := r3.Rev) (j := j18) (fun _ => rfl) (List.Mem.tail _ (List.Mem.tail _ (List.Mem.tail _ (List.Mem.tail _ (List.Mem.head _))))) hn43 hc44 hz46) (hwc.rs (f := (intC .i64)) (s := 1) (xs := r3.Cap) (j := j22) (fun _ => rfl) (List.Mem.tail _ (List.Mem.tail _ (List.Mem.tail _ (List.Mem.tail _ (List.Mem.tail _ (List.Mem.head _)))))) hn47 hc48 hz50) (hwc.rs (f := (intC .i64)) (s := 1) (xs := r3.Arc) (j := j26) (fun _ => rfl) (List.Mem.tail _ (List.Mem.tail _ (List.Mem.tail _ (List.Mem.tail _ (List.Mem.tail _ (List.Mem.tail _ (List.Mem.head _))))))) hn51 hc52 hz54) (hwc.rs (f := boolC) (s := 1) (xs := r3.Back) (j := j30) (fun _ => rfl) (List.Mem.tail _ (List.Mem.tail _ (List.Mem.tail _ (List.Mem.tail _ (List.Mem.tail _ (List.Mem.tail _ (List.Mem.tail _ (List.Mem.head _)))))))) hn55 hc56 hz58) (hwc.rs (f := (intC .i64)) (s := 1) (xs := r4) (j := j34) (fun _ => rfl) (List.Mem.tail _ (List.Mem.tail _ (List.Mem.tail _ (List.Mem.tail _ (List.Mem.tail _ (List.Mem.tail _ (List.Mem.tail _ (List.Mem.tail _ (List.Mem.head _))))))))) hn59 hc60 hz62) (hwc.hb (cs := [.slice (sb ob31) n32 c33]) (List.Mem.head _)) e76) ?_
    rintro _ _ ⟨ob77, n78, c79, j80, rfl, rfl, hn81, hc82, hj83, hz84⟩
    refine TO.assign rfl rfl rfl rfl ?_
    refine TO.assign rfl rfl rfl rfl ?_
    refine TO.done ?_
    refine X.seq_normal ?_
    refine T.trim (AllF.cons (t := 4) rfl (AllF.cons (t := 5) rfl AllF.nil)) ?_
    refine T.ret ?_
    obtain ⟨rfl, rfl⟩ := ret2 H
    exact X.ret2 rfl rfl rfl rfl (Res.tmp rfl) (Res.tmp rfl) (Pick.cons (Take.head _ _) Pick.nil) ⟨ob77, n78, c79, j80, rfl, rfl, hn81, hc82, hj83, hz84⟩
/-- acequia/cut.To$1 -/
theorem w_cut_To_1 {a0 : Int} {c1 : List Int} {c2 : Csr} {c1_k : Nat} {c1_b : Option Addr} {c1_n : Nat} {c1_c : Nat} {c2_k : Nat} {c2_First_b : Option Addr} {c2_First_n : Nat} {c2_First_c : Nat} {c2_Head_b : Option Addr} {c2_Head_n : Nat} {c2_Head_c : Nat} {c2_Rev_b : Option Addr} {c2_Rev_n : Nat} {c2_Rev_c : Nat} {c2_Cap_b : Option Addr} {c2_Cap_n : Nat} {c2_Cap_c : Nat} {c2_Arc_b : Option Addr} {c2_Arc_n : Nat} {c2_Arc_c : Nat} {c2_Back_b : Option Addr} {c2_Back_n : Nat} {c2_Back_c : Nat} (w : World) (h_c1 : RS w [] (intC .i64) 1 c1_b c1_n c1_c c1) (h_c1_k : HB w [] c1_k [.slice c1_b c1_n c1_c]) (h_c2_First : RS w [] (intC .i64) 1 c2_First_b c2_First_n c2_First_c c2.First) (h_c2_Head : RS w [] (intC .i64) 1 c2_Head_b c2_Head_n c2_Head_c c2.Head) (h_c2_Rev : RS w [] (intC .i64) 1 c2_Rev_b c2_Rev_n c2_Rev_c c2.Rev) (h_c2_Cap : RS w [] (intC .i64) 1 c2_Cap_b c2_Cap_n c2_Cap_c c2.Cap) (h_c2_Arc : RS w [] (intC .i64) 1 c2_Arc_b c2_Arc_n c2_Arc_c c2.Arc) (h_c2_Back : RS w [] boolC 1 c2_Back_b c2_Back_n c2_Back_c c2.Back) (h_c2_k : HB w [] c2_k [.int .i64 c2.N, .int .i64 c2.S, .int .i64 c2.T, .slice c2_First_b c2_First_n c2_First_c, .slice c2_Head_b c2_Head_n c2_Head_c, .slice c2_Rev_b c2_Rev_n c2_Rev_c, .slice c2_Cap_b c2_Cap_n c2_Cap_c, .slice c2_Arc_b c2_Arc_n c2_Arc_c, .slice c2_Back_b c2_Back_n c2_Back_c]) {r0 : Bool} (H : m_cut_To_1 a0 c1 c2 = some r0) : Fnc Try.prog 70 #[.int .i64 a0, .pointer (some ⟨c1_k, 0, none⟩), .pointer (some ⟨c2_k, 0, none⟩)] w [] (fun v N => v = .bool r0 ∧ N = []) := by
  unfold m_cut_To_1 at H
  refine Fnc.enter (vs := [.int .i64 a0, .pointer (some ⟨c1_k, 0, none⟩), .pointer (some ⟨c2_k, 0, none⟩)]) Try.func70 rfl rfl (Inv.refl w) ?_
  refine T.seq ?_
  refine T.regionL (ll := [0]) rfl ?_
  refine TO.assign rfl rfl rfl rfl ?_
  refine TO.done ?_
  refine X.seq_normal ?_
  refine T.seq ?_
  obtain ⟨g1, H⟩ := gd_some H
  obtain ⟨g2, H⟩ := gd_some H
  refine T.drawS 6 [0, 1, 2, 3, 4, 5] rfl mixed (by kernel_rfl) (by kernel_rfl) rfl (by kernel_rfl) ?_
  refine TQ.ldHB h_c1_k rfl rfl rfl rfl rfl TWS4.s25 ?_
  refine TQ.fieldAddr0 rfl rfl rfl rfl TWS4.f33_5 ?_
  refine TQ.ldHB h_c2_k rfl rfl rfl rfl rfl TWS4.s30 ?_
  refine TQ.move rfl rfl rfl rfl ?_
  refine TQ.ixR h_c2_Rev g1 rfl rfl rfl rfl rfl TWS4.l30 TWS4.n3 ?_
  refine TQ.ldIR h_c2_Rev g1 rfl rfl rfl rfl TWS4.s3 ?_
  refine TQ.tail [6, 7, 8, 9] rfl rfl ?_
  refine TO.ixR h_c1 g2 rfl rfl rfl rfl rfl TWS4.l25 TWS4.n2 ?_
  refine TO.ldIR h_c1 g2 rfl rfl rfl rfl TWS4.s2 ?_
  refine TO.bin rfl rfl rfl rfl rfl rfl ?_
  refine TO.assign rfl rfl rfl rfl ?_
  refine TO.done ?_
  refine X.seq_normal ?_
  refine T.trim (AllF.cons (t := 4) rfl AllF.nil) ?_
  refine T.ret ?_
  obtain rfl := ret1 H
  exact X.ret1 rfl rfl rfl rfl (Res.tmp rfl) Pick.nil ⟨rfl, rfl⟩
/-- acequia/cut.met -/
theorem w_cut_met_To_1 {c0 : Csr} {from1 : Int} {may2_0 : List Int} {may2_1 : Csr} {c0_First_b : Option Addr} {c0_First_n : Nat} {c0_First_c : Nat} {c0_Head_b : Option Addr} {c0_Head_n : Nat} {c0_Head_c : Nat} {c0_Rev_b : Option Addr} {c0_Rev_n : Nat} {c0_Rev_c : Nat} {c0_Cap_b : Option Addr} {c0_Cap_n : Nat} {c0_Cap_c : Nat} {c0_Arc_b : Option Addr} {c0_Arc_n : Nat} {c0_Arc_c : Nat} {c0_Back_b : Option Addr} {c0_Back_n : Nat} {c0_Back_c : Nat} {may2_0_k : Nat} {may2_0_b : Option Addr} {may2_0_n : Nat} {may2_0_c : Nat} {may2_1_k : Nat} {may2_1_First_b : Option Addr} {may2_1_First_n : Nat} {may2_1_First_c : Nat} {may2_1_Head_b : Option Addr} {may2_1_Head_n : Nat} {may2_1_Head_c : Nat} {may2_1_Rev_b : Option Addr} {may2_1_Rev_n : Nat} {may2_1_Rev_c : Nat} {may2_1_Cap_b : Option Addr} {may2_1_Cap_n : Nat} {may2_1_Cap_c : Nat} {may2_1_Arc_b : Option Addr} {may2_1_Arc_n : Nat} {may2_1_Arc_c : Nat} {may2_1_Back_b : Option Addr} {may2_1_Back_n : Nat} {may2_1_Back_c : Nat} (w : World) (h_c0_First : RS w [] (intC .i64) 1 c0_First_b c0_First_n c0_First_c c0.First) (h_c0_Head : RS w [] (intC .i64) 1 c0_Head_b c0_Head_n c0_Head_c c0.Head) (h_c0_Rev : RS w [] (intC .i64) 1 c0_Rev_b c0_Rev_n c0_Rev_c c0.Rev) (h_c0_Cap : RS w [] (intC .i64) 1 c0_Cap_b c0_Cap_n c0_Cap_c c0.Cap) (h_c0_Arc : RS w [] (intC .i64) 1 c0_Arc_b c0_Arc_n c0_Arc_c c0.Arc) (h_c0_Back : RS w [] boolC 1 c0_Back_b c0_Back_n c0_Back_c c0.Back) (h_may2_0 : RS w [] (intC .i64) 1 may2_0_b may2_0_n may2_0_c may2_0) (h_may2_0_k : HB w [] may2_0_k [.slice may2_0_b may2_0_n may2_0_c]) (h_may2_1_First : RS w [] (intC .i64) 1 may2_1_First_b may2_1_First_n may2_1_First_c may2_1.First) (h_may2_1_Head : RS w [] (intC .i64) 1 may2_1_Head_b may2_1_Head_n may2_1_Head_c may2_1.Head) (h_may2_1_Rev : RS w [] (intC .i64) 1 may2_1_Rev_b may2_1_Rev_n may2_1_Rev_c may2_1.Rev) (h_may2_1_Cap : RS w [] (intC .i64) 1 may2_1_Cap_b may2_1_Cap_n may2_1_Cap_c may2_1.Cap) (h_may2_1_Arc : RS w [] (intC .i64) 1 may2_1_Arc_b may2_1_Arc_n may2_1_Arc_c may2_1.Arc) (h_may2_1_Back : RS w [] boolC 1 may2_1_Back_b may2_1_Back_n may2_1_Back_c may2_1.Back) (h_may2_1_k : HB w [] may2_1_k [.int .i64 may2_1.N, .int .i64 may2_1.S, .int .i64 may2_1.T, .slice may2_1_First_b may2_1_First_n may2_1_First_c, .slice may2_1_Head_b may2_1_Head_n may2_1_Head_c, .slice may2_1_Rev_b may2_1_Rev_n may2_1_Rev_c, .slice may2_1_Cap_b may2_1_Cap_n may2_1_Cap_c, .slice may2_1_Arc_b may2_1_Arc_n may2_1_Arc_c, .slice may2_1_Back_b may2_1_Back_n may2_1_Back_c]) {r0 : List Bool} (H : m_cut_met_To_1 c0 from1 may2_0 may2_1 = some r0) : Fnc Try.prog 68 #[.agg #[.int .i64 c0.N, .int .i64 c0.S, .int .i64 c0.T, .slice c0_First_b c0_First_n c0_First_c, .slice c0_Head_b c0_Head_n c0_Head_c, .slice c0_Rev_b c0_Rev_n c0_Rev_c, .slice c0_Cap_b c0_Cap_n c0_Cap_c, .slice c0_Arc_b c0_Arc_n c0_Arc_c, .slice c0_Back_b c0_Back_n c0_Back_c], .int .i64 from1, .func (.func 70) #[] #[.pointer (some ⟨may2_0_k, 0, none⟩), .pointer (some ⟨may2_1_k, 0, none⟩)]] w [] (fun v N => ∃ (ob_0 : Option Nat) (n_0 : Nat) (c_0 : Nat) (j_0 : List Value), v = .slice (sb ob_0) n_0 c_0 ∧ N = [(ob_0, .cells (arr boolC r0 j_0).toArray 4 (0, 0))] ∧ r0.length = n_0 ∧ n_0 ≤ c_0 ∧ j_0.length = (c_0 - n_0) * 1 ∧ (ob_0 = none → c_0 = 0)) := by
  unfold m_cut_met_To_1 at H
  refine Fnc.enter (vs := [.agg #[.int .i64 c0.N, .int .i64 c0.S, .int .i64 c0.T, .slice c0_First_b c0_First_n c0_First_c, .slice c0_Head_b c0_Head_n c0_Head_c, .slice c0_Rev_b c0_Rev_n c0_Rev_c, .slice c0_Cap_b c0_Cap_n c0_Cap_c, .slice c0_Arc_b c0_Arc_n c0_Arc_c, .slice c0_Back_b c0_Back_n c0_Back_c], .int .i64 from1, .func (.func 70) #[] #[.pointer (some ⟨may2_0_k, 0, none⟩), .pointer (some ⟨may2_1_k, 0, none⟩)]]) Try.func68 rfl rfl (Inv.refl w) ?_
  refine T.seq ?_
  refine T.regionL (ll := [0, 1]) rfl ?_
  refine TO.boxA rfl rfl rfl rfl ?_; intro b1
  refine TO.assign rfl rfl rfl rfl ?_
  refine TO.done ?_
  refine X.seq_normal ?_
  refine T.seq ?_
  obtain ⟨g3, H⟩ := gd_some H
  refine T.regionL (ll := [0, 1, 2, 3, 4]) rfl ?_
  refine TO.fieldAddr0 rfl rfl rfl rfl TWS4.f33_0 ?_
  refine TO.load1 rfl rfl rfl rfl TWS4.s3 (List.Mem.head _) rfl ?_
  refine TO.mkB g3 rfl rfl rfl rfl rfl TWS4.l31 TWS4.n4 TWS4.z4 TWS4.b4 rfl ?_; intro b4
  refine TO.alloc rfl rfl rfl TWS4.z31 ?_; intro b6
  refine TO.store1n (cs' := [.slice (some ⟨b4, 0, none⟩) c0.N.toNat c0.N.toNat]) rfl rfl rfl rfl (Take.head _ _) TWS4.n31 rfl rfl rfl ?_
  refine TO.done ?_
  refine X.seq_normal ?_
  refine T.seq ?_
  obtain ⟨g8, H⟩ := gd_some H
  refine T.regionL (ll := [0, 1, 2, 3]) rfl ?_
  refine TO.load1 rfl rfl rfl rfl TWS4.s31 (List.Mem.head _) rfl ?_
  refine TO.move rfl rfl rfl rfl ?_
  refine TO.ix1 List.length_replicate g8 rfl rfl rfl rfl rfl TWS4.l31 TWS4.n4 ?_
  refine TO.stBO g8 rfl rfl rfl rfl (Take.tail (Take.head _ _)) TWS4.n4 ?_
  refine TO.done ?_
  refine X.seq_normal ?_
  refine T.trim (AllF.cons (t := 1) rfl (AllF.cons (t := 2) rfl (AllF.cons (t := 3) rfl (AllF.cons (t := 7) rfl AllF.nil)))) ?_
  refine T.seq ?_
  refine T.regionL (ll := [0, 1, 2, 3]) rfl ?_
  refine TO.move rfl rfl rfl rfl ?_
  refine TO.buildSliceS [.int .i64 0] [0] rfl rfl rfl rfl TWS4.l30 TWS4.n3 TWS4.z3 rfl rfl (by simp only [setAll, setCells, Value.cells, List.toList_toArray, List.getD_cons_zero, List.getD_cons_succ, List.set_cons_zero, List.set_cons_succ]; rfl) (by kernel_rfl) ?_; intro b9
  refine TO.alloc rfl rfl rfl TWS4.z30 ?_; intro b11
  refine TO.store1n (cs' := [.slice (some ⟨b9, 0, none⟩) 1 1]) rfl rfl rfl rfl (Take.head _ _) TWS4.n30 rfl rfl rfl ?_
  refine TO.done ?_
  refine X.seq_normal ?_
  refine T.seq ?_
  refine T.regionL (ll := [0, 1]) rfl ?_
  refine TO.makeFunc rfl rfl rfl rfl rfl ?_
  refine TO.assign rfl rfl rfl rfl ?_
  refine TO.done ?_
  refine X.seq_normal ?_
  refine T.seq ?_
  refine T.seq ?_
  refine T.regionL (ll := [0]) rfl ?_
  refine TO.assign rfl rfl rfl rfl ?_
  refine TO.done ?_
  refine X.seq_normal ?_
  refine T.meetSE1 (fun (xs78 : List Bool) => m_cut_met_To_1_j4 xs78 = some r0 ∧ xs78.length = c0.N.toNat) (fun (xs78 : List Bool) => [(7, .pointer (some ⟨b6, 0, none⟩))]) (fun (xs78 : List Bool) => [(some b6, .cells #[.slice (some ⟨b4, 0, none⟩) c0.N.toNat c0.N.toNat] 31 (0, 0)), (some b4, .cells (arr boolC xs78 ([])).toArray 4 (0, 0))]) ?_ ?_
  ·
    refine T.block ?_
    obtain ⟨o_1, e_1, K_1⟩ := bd_some H
    refine T.loopE8 (fun (m_1 : Nat) (xs13 : List Bool) (row15 : List Int) (n16 : Nat) (c17 : Nat) (ob18 : Option Nat) (j19 : List Value) (i25 : Int) => loopM (fun s => m_cut_met_To_1_s1 c0 may2_0 may2_1 s.1 s.2.1 s.2.2) m_1 (xs13, row15, i25) = some o_1 ∧ xs13.length = c0.N.toNat ∧ row15.length = n16 ∧ n16 ≤ c17 ∧ j19.length = (c17 - n16) * 1 ∧ (ob18 = none → c17 = 0)) (fun (m_1 : Nat) (xs13 : List Bool) (row15 : List Int) (n16 : Nat) (c17 : Nat) (ob18 : Option Nat) (j19 : List Value) (i25 : Int) => [(2, .func (.func 70) #[] #[.pointer (some ⟨may2_0_k, 0, none⟩), .pointer (some ⟨may2_1_k, 0, none⟩)]), (3, .pointer (some ⟨b1, 0, none⟩)), (7, .pointer (some ⟨b6, 0, none⟩)), (8, .pointer (some ⟨b11, 0, none⟩)), (9, .func (.func 82) #[] #[.pointer (some ⟨b6, 0, none⟩), .pointer (some ⟨b11, 0, none⟩)]), (10, .int .i64 i25)]) (fun (m_1 : Nat) (xs13 : List Bool) (row15 : List Int) (n16 : Nat) (c17 : Nat) (ob18 : Option Nat) (j19 : List Value) (i25 : Int) => [(some b1, .cells #[.int .i64 c0.N, .int .i64 c0.S, .int .i64 c0.T, .slice c0_First_b c0_First_n c0_First_c, .slice c0_Head_b c0_Head_n c0_Head_c, .slice c0_Rev_b c0_Rev_n c0_Rev_c, .slice c0_Cap_b c0_Cap_n c0_Cap_c, .slice c0_Arc_b c0_Arc_n c0_Arc_c, .slice c0_Back_b c0_Back_n c0_Back_c] 33 (0, 0)), (some b6, .cells #[.slice (some ⟨b4, 0, none⟩) c0.N.toNat c0.N.toNat] 31 (0, 0)), (some b4, .cells (arr boolC xs13 ([])).toArray 4 (0, 0)), (some b11, .cells #[.slice (sb ob18) n16 c17] 30 (0, 0)), (ob18, .cells (arr (intC .i64) row15 j19).toArray 3 (0, 0))]) (fun (m_1 : Nat) (xs13 : List Bool) (row15 : List Int) (n16 : Nat) (c17 : Nat) (ob18 : Option Nat) (j19 : List Value) (i25 : Int) => m_1) FUEL ((List.replicate c0.N.toNat (false : Bool)).set from1.toNat true) ([from1]) 1 1 (some b9) ([]) 0 ⟨e_1, (List.length_set.trans List.length_replicate), rfl, (Nat.le_refl _), (zeroJ _ _), someZ⟩ (AllF.cons rfl (AllF.cons rfl (AllF.cons rfl (AllF.cons rfl (AllF.cons rfl (AllF.cons rfl AllF.nil)))))) (Pick.cons (Take.tail (Take.tail (Take.tail (Take.tail (Take.head _ _))))) (Pick.cons (Take.tail (Take.tail (Take.tail (Take.head _ _)))) (Pick.cons (Take.tail (Take.tail (Take.head _ _))) (Pick.cons (Take.head _ _) (Pick.cons (Take.head _ _) Pick.nil))))) ?_
    rintro m_1 xs13 row15 n16 c17 ob18 j19 i25 ⟨H, hn14, hn20, hc21, hj22, hz23⟩
    obtain ⟨n_1, r_1, rfl, H, C_1⟩ := loopM_some H
    have H : m_cut_met_To_1_s1 c0 may2_0 may2_1 xs13 row15 i25 = some r_1 := H
    unfold m_cut_met_To_1_s1 at H
    refine T.seq ?_
    refine T.seq ?_
    refine T.regionL (ll := [0, 1, 2, 3]) rfl ?_
    refine TO.move rfl rfl rfl rfl ?_
    refine TO.load1 rfl rfl rfl rfl TWS4.s30 (List.Mem.tail _ (List.Mem.tail _ (List.Mem.tail _ (List.Mem.head _)))) rfl ?_
    refine TO.lenX (xs := row15) hn20 rfl rfl rfl rfl rfl TWS4.l30 ?_
    refine TO.bin rfl rfl rfl rfl rfl rfl ?_
    refine TO.done ?_
    refine X.seq_normal ?_
    rcases ite_some H with ⟨g26, H⟩ | ⟨g26, H⟩
    ·
      refine T.condPT rfl g26 ?_
      refine T.skip ?_
      refine X.seq_normal ?_
      refine T.seq ?_
      refine T.meetSE6 (fun (xs65 : List Bool) (row67 : List Int) (n68 : Nat) (c69 : Nat) (ob70 : Option Nat) (j71 : List Value) => m_cut_met_To_1_j3 i25 xs65 row67 = some r_1 ∧ xs65.length = c0.N.toNat ∧ row67.length = n68 ∧ n68 ≤ c69 ∧ j71.length = (c69 - n68) * 1 ∧ (ob70 = none → c69 = 0)) (fun (xs65 : List Bool) (row67 : List Int) (n68 : Nat) (c69 : Nat) (ob70 : Option Nat) (j71 : List Value) => [(2, .func (.func 70) #[] #[.pointer (some ⟨may2_0_k, 0, none⟩), .pointer (some ⟨may2_1_k, 0, none⟩)]), (3, .pointer (some ⟨b1, 0, none⟩)), (7, .pointer (some ⟨b6, 0, none⟩)), (8, .pointer (some ⟨b11, 0, none⟩)), (9, .func (.func 82) #[] #[.pointer (some ⟨b6, 0, none⟩), .pointer (some ⟨b11, 0, none⟩)]), (10, .int .i64 i25)]) (fun (xs65 : List Bool) (row67 : List Int) (n68 : Nat) (c69 : Nat) (ob70 : Option Nat) (j71 : List Value) => [(some b1, .cells #[.int .i64 c0.N, .int .i64 c0.S, .int .i64 c0.T, .slice c0_First_b c0_First_n c0_First_c, .slice c0_Head_b c0_Head_n c0_Head_c, .slice c0_Rev_b c0_Rev_n c0_Rev_c, .slice c0_Cap_b c0_Cap_n c0_Cap_c, .slice c0_Arc_b c0_Arc_n c0_Arc_c, .slice c0_Back_b c0_Back_n c0_Back_c] 33 (0, 0)), (some b6, .cells #[.slice (some ⟨b4, 0, none⟩) c0.N.toNat c0.N.toNat] 31 (0, 0)), (some b4, .cells (arr boolC xs65 ([])).toArray 4 (0, 0)), (some b11, .cells #[.slice (sb ob70) n68 c69] 30 (0, 0)), (ob70, .cells (arr (intC .i64) row67 j71).toArray 3 (0, 0))]) ?_ ?_
      ·
        refine T.block ?_
        refine T.seq ?_
        obtain ⟨g27, H⟩ := gd_some H
        obtain ⟨g28, H⟩ := gd_some H
        refine T.drawS 6 [0, 1, 2, 3, 4, 5] rfl mixed (by kernel_rfl) (by kernel_rfl) rfl (by kernel_rfl) ?_
        refine TQ.fieldAddr0 rfl rfl rfl rfl TWS4.f33_3 ?_
        refine TQ.load1 rfl rfl rfl rfl TWS4.s30 (List.Mem.head _) rfl ?_
        refine TQ.load1 rfl rfl rfl rfl TWS4.s30 (List.Mem.tail _ (List.Mem.tail _ (List.Mem.tail _ (List.Mem.head _)))) rfl ?_
        refine TQ.move rfl rfl rfl rfl ?_
        refine TQ.ixV hz23 hc21 hn20 g27 rfl rfl rfl rfl rfl TWS4.l30 TWS4.n3 ?_
        refine TQ.ldIV hz23 hc21 hn20 g27 rfl rfl rfl rfl TWS4.s3 (List.Mem.tail _ (List.Mem.tail _ (List.Mem.tail _ (List.Mem.tail _ (List.Mem.head _))))) ?_
        refine TQ.tail [6, 7, 8] rfl rfl ?_
        refine TO.ixR h_c0_First g28 rfl rfl rfl rfl rfl TWS4.l30 TWS4.n3 ?_
        refine TO.ldIR h_c0_First g28 rfl rfl rfl rfl TWS4.s3 ?_
        refine TO.assign rfl rfl rfl rfl ?_
        refine TO.done ?_
        refine X.seq_normal ?_
        refine T.trim (AllF.cons (t := 2) rfl (AllF.cons (t := 3) rfl (AllF.cons (t := 7) rfl (AllF.cons (t := 8) rfl (AllF.cons (t := 9) rfl (AllF.cons (t := 10) rfl (AllF.cons (t := 11) rfl AllF.nil))))))) ?_
        refine T.block ?_
        obtain ⟨o_2, e_2, K_2⟩ := bd_some H
        refine T.loopE8 (fun (m_2 : Nat) (xs29 : List Bool) (row31 : List Int) (n32 : Nat) (c33 : Nat) (ob34 : Option Nat) (j35 : List Value) (a41 : Int) => loopM (fun s => m_cut_met_To_1_s2 c0 may2_0 may2_1 i25 s.1 s.2.1 s.2.2) m_2 (xs29, row31, a41) = some o_2 ∧ xs29.length = c0.N.toNat ∧ row31.length = n32 ∧ n32 ≤ c33 ∧ j35.length = (c33 - n32) * 1 ∧ (ob34 = none → c33 = 0)) (fun (m_2 : Nat) (xs29 : List Bool) (row31 : List Int) (n32 : Nat) (c33 : Nat) (ob34 : Option Nat) (j35 : List Value) (a41 : Int) => [(2, .func (.func 70) #[] #[.pointer (some ⟨may2_0_k, 0, none⟩), .pointer (some ⟨may2_1_k, 0, none⟩)]), (3, .pointer (some ⟨b1, 0, none⟩)), (7, .pointer (some ⟨b6, 0, none⟩)), (8, .pointer (some ⟨b11, 0, none⟩)), (9, .func (.func 82) #[] #[.pointer (some ⟨b6, 0, none⟩), .pointer (some ⟨b11, 0, none⟩)]), (10, .int .i64 i25), (11, .int .i64 a41)]) (fun (m_2 : Nat) (xs29 : List Bool) (row31 : List Int) (n32 : Nat) (c33 : Nat) (ob34 : Option Nat) (j35 : List Value) (a41 : Int) => [(some b1, .cells #[.int .i64 c0.N, .int .i64 c0.S, .int .i64 c0.T, .slice c0_First_b c0_First_n c0_First_c, .slice c0_Head_b c0_Head_n c0_Head_c, .slice c0_Rev_b c0_Rev_n c0_Rev_c, .slice c0_Cap_b c0_Cap_n c0_Cap_c, .slice c0_Arc_b c0_Arc_n c0_Arc_c, .slice c0_Back_b c0_Back_n c0_Back_c] 33 (0, 0)), (some b6, .cells #[.slice (some ⟨b4, 0, none⟩) c0.N.toNat c0.N.toNat] 31 (0, 0)), (some b4, .cells (arr boolC xs29 ([])).toArray 4 (0, 0)), (some b11, .cells #[.slice (sb ob34) n32 c33] 30 (0, 0)), (ob34, .cells (arr (intC .i64) row31 j35).toArray 3 (0, 0))]) (fun (m_2 : Nat) (xs29 : List Bool) (row31 : List Int) (n32 : Nat) (c33 : Nat) (ob34 : Option Nat) (j35 : List Value) (a41 : Int) => m_2) FUEL xs13 row15 n16 c17 ob18 j19 (c0.First.getD (row15.getD i25.toNat 0).toNat 0) ⟨e_2, hn14, hn20, hc21, hj22, hz23⟩ (AllF.cons rfl (AllF.cons rfl (AllF.cons rfl (AllF.cons rfl (AllF.cons rfl (AllF.cons rfl (AllF.cons rfl AllF.nil))))))) (Pick.cons (Take.head _ _) (Pick.cons (Take.head _ _) (Pick.cons (Take.head _ _) (Pick.cons (Take.head _ _) (Pick.cons (Take.head _ _) Pick.nil))))) ?_
        rintro m_2 xs29 row31 n32 c33 ob34 j35 a41 ⟨H, hn30, hn36, hc37, hj38, hz39⟩
        obtain ⟨n_2, r_2, rfl, H, C_2⟩ := loopM_some H
        have H : m_cut_met_To_1_s2 c0 may2_0 may2_1 i25 xs29 row31 a41 = some r_2 := H
        unfold m_cut_met_To_1_s2 at H
        refine T.seq ?_
        refine T.seq ?_
        obtain ⟨g42, H⟩ := gd_some H
        obtain ⟨g43, H⟩ := gd_some H
        obtain ⟨g44, H⟩ := gd_some H
        refine T.drawS 10 [0, 1, 2, 3, 4, 5, 6, 7, 8, 9] rfl mixed (by kernel_rfl) (by kernel_rfl) rfl (by kernel_rfl) ?_
        refine TQ.move rfl rfl rfl rfl ?_
        refine TQ.fieldAddr0 rfl rfl rfl rfl TWS4.f33_3 ?_
        refine TQ.load1 rfl rfl rfl rfl TWS4.s30 (List.Mem.head _) rfl ?_
        refine TQ.load1 rfl rfl rfl rfl TWS4.s30 (List.Mem.tail _ (List.Mem.tail _ (List.Mem.tail _ (List.Mem.head _)))) rfl ?_
        refine TQ.move rfl rfl rfl rfl ?_
        refine TQ.ixV hz39 hc37 hn36 g42 rfl rfl rfl rfl rfl TWS4.l30 TWS4.n3 ?_
        refine TQ.ldIV hz39 hc37 hn36 g42 rfl rfl rfl rfl TWS4.s3 (List.Mem.tail _ (List.Mem.tail _ (List.Mem.tail _ (List.Mem.tail _ (List.Mem.head _))))) ?_
        refine TQ.addG g43 rfl rfl rfl rfl rfl ?_
        refine TQ.ixR h_c0_First g44 rfl rfl rfl rfl rfl TWS4.l30 TWS4.n3 ?_
        refine TQ.ldIR h_c0_First g44 rfl rfl rfl rfl TWS4.s3 ?_
        refine TQ.tail [10] rfl rfl ?_
        refine TO.bin rfl rfl rfl rfl rfl rfl ?_
        refine TO.done ?_
        refine X.seq_normal ?_
        refine T.trim (AllF.cons (t := 2) rfl (AllF.cons (t := 3) rfl (AllF.cons (t := 7) rfl (AllF.cons (t := 8) rfl (AllF.cons (t := 9) rfl (AllF.cons (t := 10) rfl (AllF.cons (t := 11) rfl (AllF.cons (t := 45) rfl AllF.nil)))))))) ?_
        rcases ite_some H with ⟨g45, H⟩ | ⟨g45, H⟩
        ·
          refine T.condPT rfl g45 ?_
          refine T.skip ?_
          refine X.seq_normal ?_
          refine T.seq ?_
          refine T.block ?_
          refine T.seq ?_
          obtain ⟨r46, e47, H⟩ := bd_some H
          refine T.regionL (ll := [0, 1, 2]) rfl ?_
          refine TO.move rfl rfl rfl rfl ?_
          refine TO.move rfl rfl rfl rfl ?_
          refine TO.callVX TWS4.c70 rfl rfl rfl rfl rfl (fun wc hwc => w_cut_To_1 (a0 := a41) (c1 := may2_0) (c2 := may2_1) wc (h_may2_0.mono hwc) (h_may2_0_k.mono hwc) (h_may2_1_First.mono hwc) (h_may2_1_Head.mono hwc) (h_may2_1_Rev.mono hwc) (h_may2_1_Cap.mono hwc) (h_may2_1_Arc.mono hwc) (h_may2_1_Back.mono hwc) (h_may2_1_k.mono hwc) e47) ?_
          rintro _ _ ⟨rfl, rfl⟩
          refine TO.done ?_
          refine X.seq_normal ?_
          rcases ite_some H with ⟨g48, H⟩ | ⟨g48, H⟩
          ·
            refine T.condT rfl g48 ?_
            obtain ⟨g49, H⟩ := gd_some H
            obtain ⟨⟨r50, r51⟩, e52, H⟩ := bd_some H
            refine T.regionL (ll := [0, 1, 2, 3, 4, 5, 6]) rfl ?_
            refine TO.move rfl rfl rfl rfl ?_
            refine TO.fieldAddr0 rfl rfl rfl rfl TWS4.f33_4 ?_
            refine TO.load1 rfl rfl rfl rfl TWS4.s30 (List.Mem.head _) rfl ?_
            refine TO.move rfl rfl rfl rfl ?_
            refine TO.ixR h_c0_Head g49 rfl rfl rfl rfl rfl TWS4.l30 TWS4.n3 ?_
            refine TO.ldIR h_c0_Head g49 rfl rfl rfl rfl TWS4.s3 ?_
            refine TO.callVXM TWS4.c82 rfl rfl rfl rfl rfl (Take.gone (Take.tail (Take.head _ _)) (Take.gone (Take.tail (Take.head _ _)) (Take.gone (Take.tail (Take.head _ _)) (Take.gone (Take.tail (Take.head _ _)) (List.Perm.refl _))))) rfl (fun wc hwc => w_cut_met_1 (v0 := (c0.Head.getD a41.toNat 0)) (c1 := xs29) (c2 := row31) wc (hwc.self (Pick.cons (Take.tail (Take.head _ _)) (Pick.cons (Take.tail (Take.head _ _)) (Pick.cons (Take.tail (Take.head _ _)) (Pick.cons (Take.tail (Take.head _ _)) Pick.nil)))) rfl) hn30 (Nat.le_refl _) (zeroJ _ _) someZ hn36 hc37 hj38 hz39 e52) ?_
            rintro _ _ ⟨ob53, n54, c55, j56, rfl, rfl, hn57, hn58, hc59, hj60, hz61⟩
            refine TO.done ?_
            refine X.block_normal ?_
            refine X.seq_normal ?_
            refine T.trim (AllF.cons (t := 2) rfl (AllF.cons (t := 3) rfl (AllF.cons (t := 7) rfl (AllF.cons (t := 8) rfl (AllF.cons (t := 9) rfl (AllF.cons (t := 10) rfl (AllF.cons (t := 11) rfl AllF.nil))))))) ?_
            obtain ⟨g63, H⟩ := gd_some H
            refine T.regionL (ll := [0, 1, 2]) rfl ?_
            refine TO.move rfl rfl rfl rfl ?_
            refine TO.addG g63 rfl rfl rfl rfl rfl ?_
            refine TO.assign rfl rfl rfl rfl ?_
            refine TO.done ?_
            have H := loop_next H C_2
            exact X.againE8 n_2 r50 r51 n54 c55 ob53 j56 (a41 + 1) ⟨H, hn57, hn58, hc59, hj60, hz61⟩ (Nat.lt_succ_self _) (AllF.cons rfl (AllF.cons rfl (AllF.cons rfl (AllF.cons rfl (AllF.cons rfl (AllF.cons rfl (AllF.cons rfl AllF.nil))))))) (Pick.cons (Take.tail (Take.tail (Take.tail (Take.tail (Take.head _ _))))) (Pick.cons (Take.head _ _) (Pick.cons (Take.head _ _) (Pick.cons (Take.head _ _) (Pick.cons (Take.head _ _) Pick.nil)))))
          ·
            refine T.condF rfl (Bool.eq_false_iff.2 g48) ?_
            refine T.skip ?_
            refine X.block_normal ?_
            refine X.seq_normal ?_
            obtain ⟨g64, H⟩ := gd_some H
            refine T.regionL (ll := [0, 1, 2]) rfl ?_
            refine TO.move rfl rfl rfl rfl ?_
            refine TO.addG g64 rfl rfl rfl rfl rfl ?_
            refine TO.assign rfl rfl rfl rfl ?_
            refine TO.done ?_
            have H := loop_next H C_2
            exact X.againE8 n_2 xs29 row31 n32 c33 ob34 j35 (a41 + 1) ⟨H, hn30, hn36, hc37, hj38, hz39⟩ (Nat.lt_succ_self _) (AllF.cons rfl (AllF.cons rfl (AllF.cons rfl (AllF.cons rfl (AllF.cons rfl (AllF.cons rfl (AllF.cons rfl AllF.nil))))))) (Pick.cons (Take.head _ _) (Pick.cons (Take.head _ _) (Pick.cons (Take.head _ _) (Pick.cons (Take.head _ _) (Pick.cons (Take.head _ _) Pick.nil)))))
        ·
          refine T.condPF rfl g45 ?_
          refine T.exit ?_
          refine X.then_exit ?_
          have H := loop_exitE H C_2 ▸ K_2
          refine X.then_exit ?_
          refine X.block_here ?_
          refine X.block_normal ?_
          exact X.metE6 xs29 row31 n32 c33 ob34 j35 ⟨H, hn30, hn36, hc37, hj38, hz39⟩ (AllF.cons rfl (AllF.cons rfl (AllF.cons rfl (AllF.cons rfl (AllF.cons rfl (AllF.cons rfl AllF.nil)))))) (Pick.cons (Take.head _ _) (Pick.cons (Take.head _ _) (Pick.cons (Take.head _ _) (Pick.cons (Take.head _ _) (Pick.cons (Take.head _ _) Pick.nil)))))
      · rintro xs65 row67 n68 c69 ob70 j71 ⟨H, hn66, hn72, hc73, hj74, hz75⟩
        unfold m_cut_met_To_1_j3 at H
        obtain ⟨g77, H⟩ := gd_some H
        refine T.regionL (ll := [0, 1, 2]) rfl ?_
        refine TO.move rfl rfl rfl rfl ?_
        refine TO.addG g77 rfl rfl rfl rfl rfl ?_
        refine TO.assign rfl rfl rfl rfl ?_
        refine TO.done ?_
        have H := loop_next H C_1
        exact X.againE8 n_1 xs65 row67 n68 c69 ob70 j71 (i25 + 1) ⟨H, hn66, hn72, hc73, hj74, hz75⟩ (Nat.lt_succ_self _) (AllF.cons rfl (AllF.cons rfl (AllF.cons rfl (AllF.cons rfl (AllF.cons rfl (AllF.cons rfl AllF.nil)))))) (Pick.cons (Take.head _ _) (Pick.cons (Take.head _ _) (Pick.cons (Take.head _ _) (Pick.cons (Take.head _ _) (Pick.cons (Take.head _ _) Pick.nil)))))
    ·
      refine T.condPF rfl g26 ?_
      refine T.exit ?_
      refine X.then_exit ?_
      have H := loop_exitE H C_1 ▸ K_1
      refine X.then_exit ?_
      refine X.block_here ?_
      exact X.metE1 xs13 ⟨H, hn14⟩ (AllF.cons rfl AllF.nil) (Pick.cons (Take.tail (Take.head _ _)) (Pick.cons (Take.tail (Take.head _ _)) Pick.nil))
  · rintro xs78 ⟨H, hn79⟩
    unfold m_cut_met_To_1_j4 at H
    refine T.seq ?_
    refine T.regionL (ll := [0, 1]) rfl ?_
    refine TO.load1 rfl rfl rfl rfl TWS4.s31 (List.Mem.head _) rfl ?_
    refine TO.assign rfl rfl rfl rfl ?_
    refine TO.done ?_
    refine X.seq_normal ?_
    refine T.ret ?_
    obtain rfl := ret1 H
    exact X.ret1 rfl rfl rfl rfl (Res.tmp rfl) (Pick.cons (Take.tail (Take.head _ _)) Pick.nil) ⟨(some b4), c0.N.toNat, c0.N.toNat, ([]), rfl, rfl, hn79, (Nat.le_refl _), (zeroJ _ _), someZ⟩
/-- acequia/cut.To -/
theorem w_cut_To {n0 : Net} {f1 : List Int} {n0_Arcs_b : Option Addr} {n0_Arcs_n : Nat} {n0_Arcs_c : Nat} {f1_b : Option Addr} {f1_n : Nat} {f1_c : Nat} (w : World) (h_n0_Arcs : RS w [] arcC 3 n0_Arcs_b n0_Arcs_n n0_Arcs_c n0.Arcs) (h_f1 : RS w [] (intC .i64) 1 f1_b f1_n f1_c f1) {r0 : List Bool} {r1 : Int} (H : m_cut_To n0 f1 = some (r0, r1)) : Fnc Try.prog 40 #[.agg #[.int .i64 n0.N, .int .i64 n0.S, .int .i64 n0.T, .slice n0_Arcs_b n0_Arcs_n n0_Arcs_c], .slice f1_b f1_n f1_c] w [] (fun v N => ∃ (ob_0 : Option Nat) (n_0 : Nat) (c_0 : Nat) (j_0 : List Value), v = .tuple #[.slice (sb ob_0) n_0 c_0, .int .i64 r1] ∧ N = [(ob_0, .cells (arr boolC r0 j_0).toArray 4 (0, 0))] ∧ r0.length = n_0 ∧ n_0 ≤ c_0 ∧ j_0.length = (c_0 - n_0) * 1 ∧ (ob_0 = none → c_0 = 0)) := by
  unfold m_cut_To at H
  refine Fnc.enter (vs := [.agg #[.int .i64 n0.N, .int .i64 n0.S, .int .i64 n0.T, .slice n0_Arcs_b n0_Arcs_n n0_Arcs_c], .slice f1_b f1_n f1_c]) Try.func40 rfl rfl (Inv.refl w) ?_
  refine T.seq ?_
  refine T.regionL (ll := [0, 1, 2]) rfl ?_
  refine TO.boxA rfl rfl rfl rfl ?_; intro b1
  refine TO.assign rfl rfl rfl rfl ?_
  refine TO.assign rfl rfl rfl rfl ?_
  refine TO.done ?_
  refine X.seq_normal ?_
  refine T.seq ?_
  obtain ⟨⟨r3, r4, r5⟩, e6, H⟩ := bd_some H
  refine T.regionL (ll := [0, 1, 2, 3, 4, 5, 6, 7, 8, 9, 10, 11]) rfl ?_
  refine TO.loadA rfl rfl rfl rfl TWS4.a24 (List.Mem.head _) rfl ?_
  refine TO.move rfl rfl rfl rfl ?_
  refine TO.callX TWS4.c67 rfl rfl rfl rfl (fun wc hwc => w_cut_left (n0 := n0) (f1 := f1) wc (h_n0_Arcs.mono hwc) (h_f1.mono hwc) e6) ?_
  rintro _ _ ⟨ob7, n8, c9, j10, ob11, n12, c13, j14, ob15, n16, c17, j18, ob19, n20, c21, j22, ob23, n24, c25, j26, ob27, n28, c29, j30, ob31, n32, c33, j34, rfl, rfl, hn35, hc36, hj37, hz38, hn39, hc40, hj41, hz42, hn43, hc44, hj45, hz46, hn47, hc48, hj49, hz50, hn51, hc52, hj53, hz54, hn55, hc56, hj57, hz58, hn59, hc60, hj61, hz62⟩
  refine TO.move rfl rfl rfl rfl ?_
  refine TO.extract rfl rfl rfl rfl rfl ?_
  refine TO.extract rfl rfl rfl rfl rfl ?_
  refine TO.extract rfl rfl rfl rfl rfl ?_
  refine TO.allocA rfl rfl rfl TWS4.z33 ?_; intro b70
  refine TO.alloc rfl rfl rfl TWS4.z25 ?_; intro b72
  refine TO.storeA rfl rfl rfl rfl (Take.tail (Take.head _ _)) TWS4.n33 rfl rfl rfl ?_
  refine TO.store1n (cs' := [.slice (sb ob31) n32 c33]) rfl rfl rfl rfl (Take.tail (Take.head _ _)) TWS4.n25 rfl rfl rfl ?_
  refine TO.assign rfl rfl rfl rfl ?_
  refine TO.done ?_
  refine X.seq_normal ?_
  refine T.trim (AllF.cons (t := 2) rfl (AllF.cons (t := 6) rfl (AllF.cons (t := 7) rfl (AllF.cons (t := 8) rfl AllF.nil)))) ?_
  refine T.seq ?_
  refine T.seq ?_
  refine T.regionL (ll := [0, 1]) rfl ?_
  refine TO.move rfl rfl rfl rfl ?_
  refine TO.bin rfl rfl rfl rfl rfl rfl ?_
  refine TO.done ?_
  refine X.seq_normal ?_
  rcases ite_some H with ⟨g74, H⟩ | ⟨g74, H⟩
  ·
    refine T.condPT rfl g74 ?_
    refine T.seq ?_
    refine T.regionL (ll := [0, 1, 2]) rfl ?_
    refine TO.move rfl rfl rfl rfl ?_
    refine TO.assign rfl rfl rfl rfl ?_
    refine TO.assign rfl rfl rfl rfl ?_
    refine TO.done ?_
    refine X.seq_normal ?_
    refine T.ret ?_
    refine X.then_ret ?_
    obtain ⟨rfl, rfl⟩ := ret2 H
    exact X.ret2 rfl rfl rfl rfl (Res.tmp rfl) (Res.tmp rfl) (Pick.none Pick.nil) ⟨none, 0, 0, ([]), rfl, rfl, rfl, (Nat.le_refl _), (zeroJ 0 _), (fun _ => rfl)⟩
  ·
    refine T.condPF rfl g74 ?_
    refine T.skip ?_
    refine X.seq_normal ?_
    refine T.seq ?_
    obtain ⟨r75, e76, H⟩ := bd_some H
    refine T.regionL (ll := [0, 1, 2, 3, 4, 5]) rfl ?_
    refine TO.loadA rfl rfl rfl rfl TWS4.a33 (List.Mem.tail _ (List.Mem.head _)) rfl ?_
    refine TO.fieldAddr0 rfl rfl rfl rfl TWS4.f24_2 ?_
    refine TO.load1 rfl rfl rfl rfl TWS4.s3 (List.Mem.tail _ (List.Mem.tail _ (List.Mem.tail _ (List.Mem.tail _ (List.Mem.tail _ (List.Mem.tail _ (List.Mem.tail _ (List.Mem.tail _ (List.Mem.tail _ (List.Mem.head _)))))))))) rfl ?_
    refine TO.makeFunc rfl rfl rfl rfl rfl ?_
    refine TO.callX TWS4.c68 rfl rfl rfl rfl (fun wc hwc => w_cut_met_To_1 (c0 := r3) (from1 := n0.T) (may2_0 := r4) (may2_1 := r3) wc (hwc.rs (f := (intC .i64)) (s := 1) (xs := r3.First) (j := j10) (fun _ => rfl) (List.Mem.tail _ (List.Mem.tail _ (List.Mem.head _))) hn35 hc36 hz38) (hwc.rs (f := (intC .i64)) (s := 1) (xs := r3.Head) (j := j14) (fun _ => rfl) (List.Mem.tail _ (List.Mem.tail _ (List.Mem.tail _ (List.Mem.head _)))) hn39 hc40 hz42) (hwc.rs (f := (intC .i64)) (s := 1) (xs := r3.Rev) (j := j18) (fun _ => rfl) (List.Mem.tail _ (List.Mem.tail _ (List.Mem.tail _ (List.Mem.tail _ (List.Mem.head _))))) hn43 hc44 hz46) (hwc.rs (f := (intC .i64)) (s := 1) (xs := r3.Cap) (j := j22) (fun _ => rfl) (List.Mem.tail _ (List.Mem.tail _ (List.Mem.tail _ (List.Mem.tail _ (List.Mem.tail _ (List.Mem.head _)))))) hn47 hc48 hz50) (hwc.rs (f := (intC .i64)) (s := 1) (xs := r3.Arc) (j := j26) (fun _ => rfl) (List.Mem.tail _ (List.Mem.tail _ (List.Mem.tail _ (List.Mem.tail _ (List.Mem.tail _ (List.Mem.tail _ (List.Mem.head _))))))) hn51 hc52 hz54) (hwc.rs (f := boolC) (s := 1) (xs := r3.Back) (j := j30) (fun _ => rfl) (List.Mem.tail _ (List.Mem.tail _ (List.Mem.tail _ (List.Mem.tail _ (List.Mem.tail _ (List.Mem.tail _ (List.Mem.tail _ (List.Mem.head _)))))))) hn55 hc56 hz58) (hwc.rs (f := (intC .i64)) (s := 1) (xs := r4) (j := j34) (fun _ => rfl) (List.Mem.tail _ (List.Mem.tail _ (List.Mem.tail _ (List.Mem.tail _ (List.Mem.tail _ (List.Mem.tail _ (List.Mem.tail _ (List.Mem.tail _ (List.Mem.head _))))))))) hn59 hc60 hz62) (hwc.hb (cs := [.slice (sb ob31) n32 c33]) (List.Mem.head _)) (hwc.rs (f := (intC .i64)) (s := 1) (xs := r3.First) (j := j10) (fun _ => rfl) (List.Mem.tail _ (List.Mem.tail _ (List.Mem.head _))) hn35 hc36 hz38) (hwc.rs (f := (intC .i64)) (s := 1) (xs := r3.Head) (j := j14) (fun _ => rfl) (List.Mem.tail _ (List.Mem.tail _ (List.Mem.tail _ (List.Mem.head _)))) hn39 hc40 hz42) (hwc.rs (f := (intC .i64)) (s := 1) (xs := r3.Rev) (j := j18) (fun _ => rfl) (List.Mem.tail _ (List.Mem.tail _ (List.Mem.tail _ (List.Mem.tail _ (List.Mem.head _))))) hn43 hc44 hz46) (hwc.rs (f := (intC .i64)) (s := 1) (xs := r3.Cap) (j := j22) (fun _ => rfl) (List.Mem.tail _ (List.Mem.tail _ (List.Mem.tail _ (List.Mem.tail _ (List.Mem.tail _ (List.Mem.head _)))))) hn47 hc48 hz50) (hwc.rs (f := (intC .i64)) (s := 1) (xs := r3.Arc) (j := j26) (fun _ => rfl) (List.Mem.tail _ (List.Mem.tail _ (List.Mem.tail _ (List.Mem.tail _ (List.Mem.tail _ (List.Mem.tail _ (List.Mem.head _))))))) hn51 hc52 hz54) (hwc.rs (f := boolC) (s := 1) (xs := r3.Back) (j := j30) (fun _ => rfl) (List.Mem.tail _ (List.Mem.tail _ (List.Mem.tail _ (List.Mem.tail _ (List.Mem.tail _ (List.Mem.tail _ (List.Mem.tail _ (List.Mem.head _)))))))) hn55 hc56 hz58) (hwc.hb (cs := [.int .i64 r3.N, .int .i64 r3.S, .int .i64 r3.T, .slice (sb ob7) n8 c9, .slice (sb ob11) n12 c13, .slice (sb ob15) n16 c17, .slice (sb ob19) n20 c21, .slice (sb ob23) n24 c25, .slice (sb ob27) n28 c29]) (List.Mem.tail _ (List.Mem.head _))) e76) ?_
    rintro _ _ ⟨ob77, n78, c79, j80, rfl, rfl, hn81, hc82, hj83, hz84⟩
    refine TO.assign rfl rfl rfl rfl ?_
    refine TO.done ?_
    refine X.seq_normal ?_
    refine T.trim (AllF.cons (t := 9) rfl AllF.nil) ?_
    refine T.seq ?_
    refine T.seq ?_
    refine T.regionL (ll := [0, 1, 2]) rfl ?_
    refine TO.move rfl rfl rfl rfl ?_
    refine TO.lenX (xs := r75) hn81 rfl rfl rfl rfl rfl TWS4.l31 ?_
    refine TO.move rfl rfl rfl rfl ?_
    refine TO.done ?_
    refine X.seq_normal ?_
    refine T.meetSE1 (fun (xs93 : List Bool) => m_cut_To_j2 xs93 = some (r0, r1) ∧ xs93.length = n78) (fun (xs93 : List Bool) => [(9, .slice (sb ob77) n78 c79)]) (fun (xs93 : List Bool) => [(ob77, .cells (arr boolC xs93 j80).toArray 4 (0, 0))]) ?_ ?_
    ·
      refine T.block ?_
      obtain ⟨o_1, e_1, K_1⟩ := bd_some H
      refine T.loopE3 (fun (m_1 : Nat) (xs86 : List Bool) (x88 : Int) => loopM (fun s => m_cut_To_s1 r75 s.1 s.2) m_1 (xs86, x88) = some o_1 ∧ xs86.length = n78) (fun (m_1 : Nat) (xs86 : List Bool) (x88 : Int) => [(9, .slice (sb ob77) n78 c79), (27, .int .i64 (r75.length : Int)), (28, .int .i64 x88)]) (fun (m_1 : Nat) (xs86 : List Bool) (x88 : Int) => [(ob77, .cells (arr boolC xs86 j80).toArray 4 (0, 0))]) (fun (m_1 : Nat) (xs86 : List Bool) (x88 : Int) => m_1) FUEL r75 0 ⟨e_1, hn81⟩ (AllF.cons rfl (AllF.cons rfl (AllF.cons rfl AllF.nil))) (Pick.cons (Take.head _ _) Pick.nil) ?_
      rintro m_1 xs86 x88 ⟨H, hn87⟩
      obtain ⟨n_1, r_1, rfl, H, C_1⟩ := loopM_some H
      have H : m_cut_To_s1 r75 xs86 x88 = some r_1 := H
      unfold m_cut_To_s1 at H
      refine T.seq ?_
      refine T.regionL (ll := [0]) rfl ?_
      refine TO.bin rfl rfl rfl rfl rfl rfl ?_
      refine TO.done ?_
      refine X.seq_normal ?_
      refine T.seq ?_
      rcases ite_some H with ⟨g89, H⟩ | ⟨g89, H⟩
      ·
        refine T.condPT rfl g89 ?_
        refine T.skip ?_
        refine X.seq_normal ?_
        refine T.seq ?_
        refine T.block ?_
        refine T.seq ?_
        refine T.regionL (ll := [0, 1]) rfl ?_
        refine TO.move rfl rfl rfl rfl ?_
        refine TO.assign rfl rfl rfl rfl ?_
        refine TO.done ?_
        refine X.seq_normal ?_
        obtain ⟨g90, H⟩ := gd_some H
        obtain ⟨g91, H⟩ := gd_some H
        refine T.regionL (ll := [0, 1, 2, 3, 4, 5, 6, 7, 8]) rfl ?_
        refine TO.move rfl rfl rfl rfl ?_
        refine TO.move rfl rfl rfl rfl ?_
        refine TO.move rfl rfl rfl rfl ?_
        refine TO.move rfl rfl rfl rfl ?_
        refine TO.ixV hz84 hc82 hn87 g90 rfl rfl rfl rfl rfl TWS4.l31 TWS4.n4 ?_
        refine TO.ldBV hz84 hc82 hn87 g90 rfl rfl rfl rfl TWS4.s4 (List.Mem.head _) ?_
        refine TO.not rfl rfl rfl rfl ?_
        refine TO.ixV hz84 hc82 hn87 g91 rfl rfl rfl rfl rfl TWS4.l31 TWS4.n4 ?_
        refine TO.stBV hz84 hc82 hn87 g91 rfl rfl rfl rfl (Take.head _ _) TWS4.n4 ?_
        refine TO.done ?_
        refine X.block_normal ?_
        refine X.seq_normal ?_
        refine T.trim (AllF.cons (t := 9) rfl (AllF.cons (t := 27) rfl (AllF.cons (t := 28) rfl AllF.nil))) ?_
        obtain ⟨g92, H⟩ := gd_some H
        refine T.regionL (ll := [0, 1]) rfl ?_
        refine TO.addG g92 rfl rfl rfl rfl rfl ?_
        refine TO.move rfl rfl rfl rfl ?_
        refine TO.done ?_
        have H := loop_next H C_1
        exact X.againE3 n_1 (xs86.set x88.toNat (!(xs86.getD x88.toNat false))) (x88 + 1) ⟨H, (List.length_set.trans hn87)⟩ (Nat.lt_succ_self _) (AllF.cons rfl (AllF.cons rfl (AllF.cons rfl AllF.nil))) (Pick.cons (Take.head _ _) Pick.nil)
      ·
        refine T.condPF rfl g89 ?_
        refine T.exit ?_
        refine X.then_exit ?_
        have H := loop_exitE H C_1 ▸ K_1
        refine X.then_exit ?_
        refine X.block_here ?_
        exact X.metE1 xs86 ⟨H, hn87⟩ (AllF.cons rfl AllF.nil) (Pick.cons (Take.head _ _) Pick.nil)
    · rintro xs93 ⟨H, hn94⟩
      unfold m_cut_To_j2 at H
      refine T.seq ?_
      refine T.regionL (ll := [0, 1, 2]) rfl ?_
      refine TO.move rfl rfl rfl rfl ?_
      refine TO.assign rfl rfl rfl rfl ?_
      refine TO.assign rfl rfl rfl rfl ?_
      refine TO.done ?_
      refine X.seq_normal ?_
      refine T.ret ?_
      obtain ⟨rfl, rfl⟩ := ret2 H
      exact X.ret2 rfl rfl rfl rfl (Res.tmp rfl) (Res.tmp rfl) (Pick.cons (Take.head _ _) Pick.nil) ⟨ob77, n78, c79, j80, rfl, rfl, hn94, hc82, hj83, hz84⟩
/-- acequia/acequialaw04.side -/
theorem w_acequialaw04_side {n0 : Net} {s1 : List Bool} {n0_Arcs_b : Option Addr} {n0_Arcs_n : Nat} {n0_Arcs_c : Nat} {s1_b : Option Addr} {s1_n : Nat} {s1_c : Nat} (w : World) (h_n0_Arcs : RS w [] arcC 3 n0_Arcs_b n0_Arcs_n n0_Arcs_c n0.Arcs) (h_s1 : RS w [] boolC 1 s1_b s1_n s1_c s1) {r0 : List Bool} (H : m_acequialaw04_side n0 s1 = some r0) : Fnc Try.prog 43 #[.agg #[.int .i64 n0.N, .int .i64 n0.S, .int .i64 n0.T, .slice n0_Arcs_b n0_Arcs_n n0_Arcs_c], .slice s1_b s1_n s1_c] w [] (fun v N => ∃ (ob_0 : Option Nat) (n_0 : Nat) (c_0 : Nat) (j_0 : List Value), v = .slice (sb ob_0) n_0 c_0 ∧ N = [(ob_0, .cells (arr boolC r0 j_0).toArray 4 (0, 0))] ∧ r0.length = n_0 ∧ n_0 ≤ c_0 ∧ j_0.length = (c_0 - n_0) * 1 ∧ (ob_0 = none → c_0 = 0)) := by
  unfold m_acequialaw04_side at H
  refine Fnc.enter (vs := [.agg #[.int .i64 n0.N, .int .i64 n0.S, .int .i64 n0.T, .slice n0_Arcs_b n0_Arcs_n n0_Arcs_c], .slice s1_b s1_n s1_c]) Try.func43 rfl rfl (Inv.refl w) ?_
  refine T.seq ?_
  refine T.regionL (ll := [0, 1]) rfl ?_
  refine TO.boxA rfl rfl rfl rfl ?_; intro b1
  refine TO.assign rfl rfl rfl rfl ?_
  refine TO.done ?_
  refine X.seq_normal ?_
  refine T.seq ?_
  obtain ⟨g3, H⟩ := gd_some H
  refine T.regionL (ll := [0, 1, 2, 3]) rfl ?_
  refine TO.fieldAddr0 rfl rfl rfl rfl TWS4.f24_0 ?_
  refine TO.load1 rfl rfl rfl rfl TWS4.s3 (List.Mem.head _) rfl ?_
  refine TO.mkB g3 rfl rfl rfl rfl rfl TWS4.l31 TWS4.n4 TWS4.z4 TWS4.b4 rfl ?_; intro b4
  refine TO.assign rfl rfl rfl rfl ?_
  refine TO.done ?_
  refine X.seq_normal ?_
  refine T.seq ?_
  refine T.regionL (ll := [0, 1, 2]) rfl ?_
  refine TO.move rfl rfl rfl rfl ?_
  refine TO.move rfl rfl rfl rfl ?_
  refine TO.copyO (f := boolC) (s := 1) (xs := (List.replicate n0.N.toNat (false : Bool))) (ob := some b4) (j := ([])) (ys := s1) (fun _ => rfl) (fun _ => rfl) List.length_replicate (Nat.le_refl _) someZ rfl rfl rfl rfl rfl TWS4.l31 TWS4.n4 (Take.head _ _) (fun wc hwc => (h_s1.mono hwc)) ?_
  refine TO.done ?_
  refine X.seq_normal ?_
  refine T.trim (AllF.cons (t := 2) rfl (AllF.cons (t := 5) rfl AllF.nil)) ?_
  refine T.seq ?_
  obtain ⟨g6, H⟩ := gd_some H
  obtain ⟨g7, H⟩ := gd_some H
  apply T.drawL [⟨[], false, [], relV _⟩, ⟨[], false, [], relV _⟩, ⟨[1], false, [], relV _⟩, ⟨[], false, [], relV _⟩, ⟨[], false, [], relV _⟩, ⟨[4], false, [], relV _⟩, ⟨[0, 2], false, [], relV _⟩, ⟨[0, 2, 6], true, [], relN⟩] [12, 13, 14, 15, 16, 17, 18] 8 (HRk [[(some b4, .cells (arr boolC (cpy (List.replicate n0.N.toNat (false : Bool)) s1) ([])).toArray 4 (0, 0))], [(some b4, .cells (arr boolC ((cpy (List.replicate n0.N.toNat (false : Bool)) s1).set n0.S.toNat true) ([])).toArray 4 (0, 0))]]) [[], []] [(some b4, .cells (arr boolC (cpy (List.replicate n0.N.toNat (false : Bool)) s1) ([])).toArray 4 (0, 0))] [(some b1, .cells #[.int .i64 n0.N, .int .i64 n0.S, .int .i64 n0.T, .slice n0_Arcs_b n0_Arcs_n n0_Arcs_c] 24 (0, 0))]
  · exact mixed
  · exact rfl
  · kernel_rfl
  · kernel_rfl
  · kernel_rfl
  · exact rfl
  · exact rfl
  · exact rfl
  · exact rfl
  · exact (by repeat (first | exact Pick.refl _ | exact Pick.nil | apply Pick.none | refine Pick.cons (by repeat (first | exact Take.head _ _ | apply Take.tail)) ?_))
  · refine ⟨?_, ?_, ?_, ?_, ?_, ?_, ?_, ?_, trivial⟩
    · rintro vs es Es Hx -
      refine TO.reenv (D := []) rfl ?_
      refine TO.move rfl rfl rfl rfl ?_
      refine TO.done ?_; exact X.obQ rfl ⟨rfl, rfl⟩ (Pick.refl _) rfl
    · rintro vs es Es Hx -
      refine TO.reenv (D := []) rfl ?_
      refine TO.fieldAddr0 rfl rfl rfl rfl TWS4.f24_1 ?_
      refine TO.done ?_; exact X.obQ rfl ⟨rfl, rfl⟩ (Pick.refl _) rfl
    · rintro vs es Es Hx ⟨⟨h_1, e_1⟩, -⟩
      refine TO.reenv (D := [(13, vs 1)]) rfl ?_; rw [h_1]
      refine TO.load1 rfl rfl rfl rfl TWS4.s3 (List.Mem.head _) rfl ?_
      refine TO.done ?_; exact X.obQ rfl ⟨rfl, rfl⟩ (Pick.refl _) (by show [(13, vs 1)] = _; rw [h_1])
    · rintro vs es Es Hx -
      refine TO.reenv (D := []) rfl ?_
      refine TO.move rfl rfl rfl rfl ?_
      refine TO.done ?_; exact X.obQ rfl ⟨rfl, rfl⟩ (Pick.refl _) rfl
    · rintro vs es Es Hx -
      refine TO.reenv (D := []) rfl ?_
      refine TO.fieldAddr0 rfl rfl rfl rfl TWS4.f24_2 ?_
      refine TO.done ?_; exact X.obQ rfl ⟨rfl, rfl⟩ (Pick.refl _) rfl
    · rintro vs es Es Hx ⟨⟨h_4, e_4⟩, -⟩
      refine TO.reenv (D := [(16, vs 4)]) rfl ?_; rw [h_4]
      refine TO.load1 rfl rfl rfl rfl TWS4.s3 (List.Mem.head _) rfl ?_
      refine TO.done ?_; exact X.obQ rfl ⟨rfl, rfl⟩ (Pick.refl _) (by show [(16, vs 4)] = _; rw [h_4])
    · rintro vs es Es Hx ⟨⟨h_0, e_0⟩, ⟨h_2, e_2⟩, -⟩
      refine TO.reenv (D := [(12, vs 0), (14, vs 2)]) rfl ?_; rw [h_0, h_2]
      refine TO.ix1 (cpy_len List.length_replicate) g6 rfl rfl rfl rfl rfl TWS4.l31 TWS4.n4 ?_
      refine TO.done ?_; exact X.obQ rfl ⟨rfl, rfl⟩ (Pick.refl _) (by show [(12, vs 0), (14, vs 2)] = _; rw [h_0, h_2])
    · rintro vs es Es Hx hb ⟨⟨h_0, e_0⟩, ⟨h_2, e_2⟩, ⟨h_6, e_6⟩, -⟩ hHR
      obtain rfl : hb = [(some b4, .cells (arr boolC (cpy (List.replicate n0.N.toNat (false : Bool)) s1) ([])).toArray 4 (0, 0))] := hHR
      refine TO.reenv (D := [(12, vs 0), (14, vs 2), (18, vs 6)]) rfl ?_; rw [h_0, h_2, h_6]
      refine TO.stBO g6 rfl rfl rfl rfl (Take.head _ _) TWS4.n4 ?_
      refine TO.done ?_; exact X.obE (hb' := [(some b4, .cells (arr boolC ((cpy (List.replicate n0.N.toNat (false : Bool)) s1).set n0.S.toNat true) ([])).toArray 4 (0, 0))]) rfl rfl rfl (by repeat (first | exact Pick.refl _ | exact Pick.nil | apply Pick.none | refine Pick.cons (by repeat (first | exact Take.head _ _ | apply Take.tail)) ?_)) (by show [(12, vs 0), (14, vs 2), (18, vs 6)] = _; rw [h_0, h_2, h_6])
  · rintro vs es hb ⟨⟨h_0, e_0⟩, ⟨h_1, e_1⟩, ⟨h_2, e_2⟩, ⟨h_3, e_3⟩, ⟨h_4, e_4⟩, ⟨h_5, e_5⟩, ⟨h_6, e_6⟩, e_7, -⟩ hHR
    obtain rfl : hb = [(some b4, .cells (arr boolC ((cpy (List.replicate n0.N.toNat (false : Bool)) s1).set n0.S.toNat true) ([])).toArray 4 (0, 0))] := hHR
    refine TO.reenv (D := [(12, vs 0), (13, vs 1), (14, vs 2), (15, vs 3), (16, vs 4), (17, vs 5), (18, vs 6)]) rfl ?_
    refine TO.reheap (H := [(some b4, .cells (arr boolC ((cpy (List.replicate n0.N.toNat (false : Bool)) s1).set n0.S.toNat true) ([])).toArray 4 (0, 0)), (some b1, .cells #[.int .i64 n0.N, .int .i64 n0.S, .int .i64 n0.T, .slice n0_Arcs_b n0_Arcs_n n0_Arcs_c] 24 (0, 0))]) (by show _ ++ (_ ++ (es 0 ++ (es 1 ++ (es 2 ++ (es 3 ++ (es 4 ++ (es 5 ++ (es 6 ++ (es 7 ++ ([])))))))))) = _; rw [e_0, e_1, e_2, e_3, e_4, e_5, e_6, e_7]; rfl) ?_
    rw [h_0, h_1, h_2, h_3, h_4, h_5, h_6]
    clear h_6 h_5 h_4 h_3 h_2 h_1 h_0 e_0 e_1 e_2 e_3 e_4 e_5 e_6 e_7
    refine TO.ix1 (List.length_set.trans (cpy_len List.length_replicate)) g7 rfl rfl rfl rfl rfl TWS4.l31 TWS4.n4 ?_
    refine TO.stBO g7 rfl rfl rfl rfl (Take.head _ _) TWS4.n4 ?_
    refine TO.done ?_
    refine X.seq_normal ?_
    refine T.trim (AllF.cons (t := 5) rfl AllF.nil) ?_
    refine T.seq ?_
    refine T.regionL (ll := [0, 1]) rfl ?_
    refine TO.move rfl rfl rfl rfl ?_
    refine TO.assign rfl rfl rfl rfl ?_
    refine TO.done ?_
    refine X.seq_normal ?_
    refine T.ret ?_
    obtain rfl := ret1 H
    exact X.ret1 rfl rfl rfl rfl (Res.tmp rfl) (Pick.cons (Take.head _ _) Pick.nil) ⟨(some b4), n0.N.toNat, n0.N.toNat, ([]), rfl, rfl, (List.length_set.trans (List.length_set.trans (cpy_len List.length_replicate))), (Nat.le_refl _), (zeroJ _ _), someZ⟩
/-- acequia/acequialaw04.caps -/
theorem w_acequialaw04_caps {want0 : Int} {s1 : List Bool} {s1_b : Option Addr} {s1_n : Nat} {s1_c : Nat} (w : World) (h_s1 : RS w [] boolC 1 s1_b s1_n s1_c s1) {r0 : Bool} (H : m_acequialaw04_caps want0 s1 = some r0) : Fnc Try.prog 71 #[.int .i64 want0, .slice s1_b s1_n s1_c] w [] (fun v N => v = .bool r0 ∧ N = []) := by
  unfold m_acequialaw04_caps at H
  refine Fnc.enter (vs := [.int .i64 want0, .slice s1_b s1_n s1_c]) Try.func71 rfl rfl (Inv.refl w) ?_
  refine T.seq ?_
  refine T.regionL (ll := [0]) rfl ?_
  refine TO.assign rfl rfl rfl rfl ?_
  refine TO.done ?_
  refine X.seq_normal ?_
  refine T.seq ?_
  obtain ⟨r1, e2, H⟩ := bd_some H
  obtain ⟨⟨r12, r13⟩, e14, H⟩ := bd_some H
  refine T.regionL (ll := [0, 1, 2, 3, 4, 5, 6, 7]) rfl ?_
  refine TO.callX TWS4.c56 rfl rfl rfl rfl (fun wc hwc => w_acequialaw01_Four  wc  e2) ?_
  rintro _ _ ⟨ob3, n4, c5, j6, rfl, rfl, hn7, hc8, hj9, hz10⟩
  refine TO.move rfl rfl rfl rfl ?_
  refine TO.callX TWS4.c44 rfl rfl rfl rfl (fun wc hwc => w_cut_Cap (n0 := r1) (s1 := s1) wc (hwc.rs (f := arcC) (s := 3) (xs := r1.Arcs) (j := j6) (fun _ => rfl) (List.Mem.head _) hn7 hc8 hz10) (h_s1.mono hwc) e14) ?_
  rintro _ _ ⟨rfl, rfl⟩
  refine TO.move rfl rfl rfl rfl ?_
  refine TO.extract rfl rfl rfl rfl rfl ?_
  refine TO.extract rfl rfl rfl rfl rfl ?_
  refine TO.assign rfl rfl rfl rfl ?_
  refine TO.assign rfl rfl rfl rfl ?_
  refine TO.done ?_
  refine X.seq_normal ?_
  refine T.trim (AllF.cons (t := 0) rfl (AllF.cons (t := 5) rfl (AllF.cons (t := 6) rfl AllF.nil))) ?_
  refine T.seq ?_
  rcases ite_some H with ⟨g15, H⟩ | ⟨g15, H⟩
  ·
    refine T.regionL (ll := [0, 1, 2, 3, 4, 5, 6, 7]) rfl ?_
    refine TO.move rfl rfl rfl rfl ?_
    refine TO.move rfl rfl rfl rfl ?_
    refine TO.bin rfl rfl rfl rfl rfl rfl ?_
    refine TO.move rfl rfl rfl rfl ?_
    refine TO.decB (t := 16) (b' := true) rfl (decide_eq_true g15) ?_
    refine TO.move rfl rfl rfl rfl ?_
    refine TO.bin rfl rfl rfl rfl rfl rfl ?_
    refine TO.pickT rfl rfl rfl rfl rfl ?_
    refine TO.assign rfl rfl rfl rfl ?_
    refine TO.done ?_
    refine X.seq_normal ?_
    refine T.trim (AllF.cons (t := 4) rfl AllF.nil) ?_
    refine T.ret ?_
    obtain rfl := ret1 H
    exact X.ret1 rfl rfl rfl rfl (Res.tmp rfl) Pick.nil ⟨rfl, rfl⟩
  ·
    refine T.regionL (ll := [0, 1, 2, 3, 4, 5, 6, 7]) rfl ?_
    refine TO.move rfl rfl rfl rfl ?_
    refine TO.move rfl rfl rfl rfl ?_
    refine TO.bin rfl rfl rfl rfl rfl rfl ?_
    refine TO.move rfl rfl rfl rfl ?_
    refine TO.decB (t := 16) (b' := false) rfl (decide_eq_false g15) ?_
    refine TO.shut rfl rfl rfl rfl ?_
    refine TO.shut rfl rfl rfl rfl ?_
    refine TO.pickF rfl rfl rfl rfl rfl ?_
    refine TO.assign rfl rfl rfl rfl ?_
    refine TO.done ?_
    refine X.seq_normal ?_
    refine T.trim (AllF.cons (t := 4) rfl AllF.nil) ?_
    refine T.ret ?_
    obtain rfl := ret1 H
    exact X.ret1 rfl rfl rfl rfl (Res.tmp rfl) Pick.nil ⟨rfl, rfl⟩
/-- acequia/acequialaw04.awake -/
theorem w_acequialaw04_awake (w : World) {r0 : Bool} (H : m_acequialaw04_awake = some r0) : Fnc Try.prog 42 #[] w [] (fun v N => v = .bool r0 ∧ N = []) := by
  unfold m_acequialaw04_awake at H
  refine Fnc.enter (vs := []) Try.func42 rfl rfl (Inv.refl w) ?_
  refine T.seq ?_
  refine T.regionL (ll := [0]) rfl ?_
  refine TO.assign rfl rfl rfl rfl ?_
  refine TO.done ?_
  refine X.seq_normal ?_
  refine T.seq ?_
  obtain ⟨r1, e2, H⟩ := bd_some H
  refine T.regionL (ll := [0, 1, 2, 3, 4]) rfl ?_
  refine TO.callX TWS4.c56 rfl rfl rfl rfl (fun wc hwc => w_acequialaw01_Four  wc  e2) ?_
  rintro _ _ ⟨ob3, n4, c5, j6, rfl, rfl, hn7, hc8, hj9, hz10⟩
  refine TO.buildSliceS [.int .i64 0, .int .i64 0, .int .i64 0, .int .i64 0, .int .i64 0] [0, 1, 2, 3, 4] rfl rfl rfl rfl TWS4.l25 TWS4.n2 TWS4.z2 rfl rfl (by simp only [setAll, setCells, Value.cells, List.toList_toArray, List.getD_cons_zero, List.getD_cons_succ, List.set_cons_zero, List.set_cons_succ]; rfl) (by kernel_rfl) ?_; intro b12
  refine TO.allocA rfl rfl rfl TWS4.z24 ?_; intro b14
  refine TO.storeA rfl rfl rfl rfl (Take.head _ _) TWS4.n24 rfl rfl rfl ?_
  refine TO.assign rfl rfl rfl rfl ?_
  refine TO.done ?_
  refine X.seq_normal ?_
  refine T.seq ?_
  obtain ⟨⟨r18, r19⟩, e20, H⟩ := bd_some H
  refine T.regionL (ll := [0, 1, 2, 3, 4, 5, 6, 7, 8]) rfl ?_
  refine TO.loadA rfl rfl rfl rfl TWS4.a24 (List.Mem.head _) rfl ?_
  refine TO.move rfl rfl rfl rfl ?_
  refine TO.buildSliceS [.bool false, .bool false, .bool false, .bool false] [0, 1, 2, 3] rfl rfl rfl rfl TWS4.l31 TWS4.n4 TWS4.z4 rfl rfl (by simp only [setAll, setCells, Value.cells, List.toList_toArray, List.getD_cons_zero, List.getD_cons_succ, List.set_cons_zero, List.set_cons_succ]; rfl) (by kernel_rfl) ?_; intro b16
  refine TO.callX TWS4.c45 rfl rfl rfl rfl (fun wc hwc => w_cut_Across (n0 := r1) (f1 := [5, 4, 3, 6, 2]) (s2 := [true, true, false, false]) wc (hwc.rs (f := arcC) (s := 3) (xs := r1.Arcs) (j := j6) (fun _ => rfl) (List.Mem.tail _ (List.Mem.tail _ (List.Mem.tail _ (List.Mem.head _)))) hn7 hc8 hz10) (hwc.rs (f := (intC .i64)) (s := 1) (xs := [5, 4, 3, 6, 2]) (j := ([])) (fun _ => rfl) (List.Mem.tail _ (List.Mem.tail _ (List.Mem.head _))) rfl (Nat.le_refl _) someZ) (hwc.rs (f := boolC) (s := 1) (xs := [true, true, false, false]) (j := ([])) (fun _ => rfl) (List.Mem.head _) rfl (Nat.le_refl _) someZ) e20) ?_
  rintro _ _ ⟨rfl, rfl⟩
  refine TO.move rfl rfl rfl rfl ?_
  refine TO.extract rfl rfl rfl rfl rfl ?_
  refine TO.extract rfl rfl rfl rfl rfl ?_
  refine TO.assign rfl rfl rfl rfl ?_
  refine TO.assign rfl rfl rfl rfl ?_
  refine TO.done ?_
  refine X.seq_normal ?_
  refine T.trim (AllF.cons (t := 1) rfl (AllF.cons (t := 2) rfl (AllF.cons (t := 3) rfl (AllF.cons (t := 4) rfl AllF.nil)))) ?_
  refine T.seq ?_
  obtain ⟨⟨r21, r22⟩, e23, H⟩ := bd_some H
  refine T.regionL (ll := [0, 1, 2, 3, 4, 5, 6, 7]) rfl ?_
  refine TO.loadA rfl rfl rfl rfl TWS4.a24 (List.Mem.tail _ (List.Mem.head _)) rfl ?_
  refine TO.move rfl rfl rfl rfl ?_
  refine TO.callX TWS4.c39 rfl rfl rfl rfl (fun wc hwc => w_cut_From (n0 := r1) (f1 := [5, 4, 3, 6, 2]) wc (hwc.rs (f := arcC) (s := 3) (xs := r1.Arcs) (j := j6) (fun _ => rfl) (List.Mem.tail _ (List.Mem.tail _ (List.Mem.tail _ (List.Mem.head _)))) hn7 hc8 hz10) (hwc.rs (f := (intC .i64)) (s := 1) (xs := [5, 4, 3, 6, 2]) (j := ([])) (fun _ => rfl) (List.Mem.tail _ (List.Mem.tail _ (List.Mem.head _))) rfl (Nat.le_refl _) someZ) e23) ?_
  rintro _ _ ⟨ob24, n25, c26, j27, rfl, rfl, hn28, hc29, hj30, hz31⟩
  refine TO.move rfl rfl rfl rfl ?_
  refine TO.extract rfl rfl rfl rfl rfl ?_
  refine TO.extract rfl rfl rfl rfl rfl ?_
  refine TO.assign rfl rfl rfl rfl ?_
  refine TO.assign rfl rfl rfl rfl ?_
  refine TO.done ?_
  refine X.seq_normal ?_
  refine T.seq ?_
  obtain ⟨⟨r33, r34⟩, e35, H⟩ := bd_some H
  refine T.regionL (ll := [0, 1, 2, 3, 4, 5, 6, 7]) rfl ?_
  refine TO.loadA rfl rfl rfl rfl TWS4.a24 (List.Mem.tail _ (List.Mem.tail _ (List.Mem.head _))) rfl ?_
  refine TO.move rfl rfl rfl rfl ?_
  refine TO.callX TWS4.c40 rfl rfl rfl rfl (fun wc hwc => w_cut_To (n0 := r1) (f1 := [5, 4, 3, 6, 2]) wc (hwc.rs (f := arcC) (s := 3) (xs := r1.Arcs) (j := j6) (fun _ => rfl) (List.Mem.tail _ (List.Mem.tail _ (List.Mem.tail _ (List.Mem.tail _ (List.Mem.head _))))) hn7 hc8 hz10) (hwc.rs (f := (intC .i64)) (s := 1) (xs := [5, 4, 3, 6, 2]) (j := ([])) (fun _ => rfl) (List.Mem.tail _ (List.Mem.tail _ (List.Mem.tail _ (List.Mem.head _)))) rfl (Nat.le_refl _) someZ) e35) ?_
  rintro _ _ ⟨ob36, n37, c38, j39, rfl, rfl, hn40, hc41, hj42, hz43⟩
  refine TO.move rfl rfl rfl rfl ?_
  refine TO.extract rfl rfl rfl rfl rfl ?_
  refine TO.extract rfl rfl rfl rfl rfl ?_
  refine TO.assign rfl rfl rfl rfl ?_
  refine TO.assign rfl rfl rfl rfl ?_
  refine TO.done ?_
  refine X.seq_normal ?_
  refine T.trim (AllF.cons (t := 1) rfl (AllF.cons (t := 2) rfl (AllF.cons (t := 3) rfl (AllF.cons (t := 4) rfl (AllF.cons (t := 5) rfl (AllF.cons (t := 6) rfl (AllF.cons (t := 7) rfl (AllF.cons (t := 8) rfl AllF.nil)))))))) ?_
  refine T.seq ?_
  obtain ⟨r47, e48, H⟩ := bd_some H
  rcases ite_some H with ⟨g49, H⟩ | ⟨g49, H⟩
  ·
    obtain ⟨r52, e53, H⟩ := bd_some H
    rcases ite_some H with ⟨g54, H⟩ | ⟨g54, H⟩
    ·
      obtain ⟨r57, e58, H⟩ := bd_some H
      refine T.regionL (ll := [0, 1, 2, 3, 4, 5, 6, 7, 8, 9, 10, 11, 12, 13, 14, 15, 16, 17, 18, 19, 20, 21, 22, 23, 24, 25, 26, 27, 28, 29, 30, 31, 32, 33, 34, 35, 36, 37, 38, 39, 40, 41, 42]) rfl ?_
      refine TO.buildSliceS [.bool false, .bool false, .bool false, .bool false] [0, 1, 2, 3] rfl rfl rfl rfl TWS4.l31 TWS4.n4 TWS4.z4 rfl rfl (by simp only [setAll, setCells, Value.cells, List.toList_toArray, List.getD_cons_zero, List.getD_cons_succ, List.set_cons_zero, List.set_cons_succ]; rfl) (by kernel_rfl) ?_; intro b45
      refine TO.callX TWS4.c71 rfl rfl rfl rfl (fun wc hwc => w_acequialaw04_caps (want0 := 9) (s1 := [true, false, false, false]) wc (hwc.rs (f := boolC) (s := 1) (xs := [true, false, false, false]) (j := ([])) (fun _ => rfl) (List.Mem.head _) rfl (Nat.le_refl _) someZ) e48) ?_
      rintro _ _ ⟨rfl, rfl⟩
      refine TO.move rfl rfl rfl rfl ?_
      refine TO.decB (t := 32) (b' := true) rfl g49 ?_
      refine TO.buildSliceS [.bool false, .bool false, .bool false, .bool false] [0, 1, 2, 3] rfl rfl rfl rfl TWS4.l31 TWS4.n4 TWS4.z4 rfl rfl (by simp only [setAll, setCells, Value.cells, List.toList_toArray, List.getD_cons_zero, List.getD_cons_succ, List.set_cons_zero, List.set_cons_succ]; rfl) (by kernel_rfl) ?_; intro b50
      refine TO.callX TWS4.c71 rfl rfl rfl rfl (fun wc hwc => w_acequialaw04_caps (want0 := 9) (s1 := [true, true, false, false]) wc (hwc.rs (f := boolC) (s := 1) (xs := [true, true, false, false]) (j := ([])) (fun _ => rfl) (List.Mem.head _) rfl (Nat.le_refl _) someZ) e53) ?_
      rintro _ _ ⟨rfl, rfl⟩
      refine TO.pickT rfl rfl rfl rfl rfl ?_
      refine TO.move rfl rfl rfl rfl ?_
      refine TO.decB (t := 36) (b' := true) rfl g54 ?_
      refine TO.buildSliceS [.bool false, .bool false, .bool false, .bool false] [0, 1, 2, 3] rfl rfl rfl rfl TWS4.l31 TWS4.n4 TWS4.z4 rfl rfl (by simp only [setAll, setCells, Value.cells, List.toList_toArray, List.getD_cons_zero, List.getD_cons_succ, List.set_cons_zero, List.set_cons_succ]; rfl) (by kernel_rfl) ?_; intro b55
      refine TO.callX TWS4.c71 rfl rfl rfl rfl (fun wc hwc => w_acequialaw04_caps (want0 := 11) (s1 := [true, false, true, false]) wc (hwc.rs (f := boolC) (s := 1) (xs := [true, false, true, false]) (j := ([])) (fun _ => rfl) (List.Mem.head _) rfl (Nat.le_refl _) someZ) e58) ?_
      rintro _ _ ⟨rfl, rfl⟩
      refine TO.pickT rfl rfl rfl rfl rfl ?_
      refine TO.move rfl rfl rfl rfl ?_
      refine TO.join [11, 12, 13] [14, 15, 16, 17, 18, 19, 20, 21, 22, 23, 24, 25, 26, 27, 28, 29, 30, 31, 32, 33, 34, 35, 36, 37, 38, 39, 40, 41, 42] rfl 43 (fun b60 => m_acequialaw04_awake_j1 r1 r19 r21 r22 r33 r34 b60 = some r0) [(1, .pointer (some ⟨b14, 0, none⟩)), (2, .slice (some ⟨b12, 0, none⟩) 5 5), (4, .int .i64 r19), (5, .slice (sb ob24) n25 c26), (6, .int .i64 r22), (7, .slice (sb ob36) n37 c38), (8, .int .i64 r34)] ?_ ?_
      ·
        rcases ite_some H with ⟨g59, H⟩ | ⟨g59, H⟩
        ·
          refine TO.decB (t := 40) (b' := true) rfl g59 ?_
          refine TO.move rfl rfl rfl rfl ?_
          refine TO.bin rfl rfl rfl rfl rfl rfl ?_
          refine TO.pickT rfl rfl rfl rfl rfl ?_
          refine TO.done ?_
          exact X.jn (b := (decide (r18 = 9))) H (AllF.cons rfl (AllF.cons rfl (AllF.cons rfl (AllF.cons rfl (AllF.cons rfl (AllF.cons rfl (AllF.cons rfl (AllF.cons rfl AllF.nil))))))))
        ·
          refine TO.decB (t := 40) (b' := false) rfl (Bool.eq_false_iff.2 g59) ?_
          refine TO.shut rfl rfl rfl rfl ?_
          refine TO.shut rfl rfl rfl rfl ?_
          refine TO.pickF rfl rfl rfl rfl rfl ?_
          refine TO.done ?_
          exact X.jn (b := false) H (AllF.cons rfl (AllF.cons rfl (AllF.cons rfl (AllF.cons rfl (AllF.cons rfl (AllF.cons rfl (AllF.cons rfl (AllF.cons rfl AllF.nil))))))))
      · rintro b60 H
        unfold m_acequialaw04_awake_j1 at H
        refine TO.move rfl rfl rfl rfl ?_
        refine TO.join [15, 16, 17] [18, 19, 20, 21, 22, 23, 24, 25, 26, 27, 28, 29, 30, 31, 32, 33, 34, 35, 36, 37, 38, 39, 40, 41, 42] rfl 47 (fun b62 => m_acequialaw04_awake_j2 r1 r21 r22 r33 r34 b62 = some r0) [(1, .pointer (some ⟨b14, 0, none⟩)), (2, .slice (some ⟨b12, 0, none⟩) 5 5), (5, .slice (sb ob24) n25 c26), (6, .int .i64 r22), (7, .slice (sb ob36) n37 c38), (8, .int .i64 r34)] ?_ ?_
        ·
          rcases ite_some H with ⟨g61, H⟩ | ⟨g61, H⟩
          ·
            refine TO.decB (t := 44) (b' := true) rfl g61 ?_
            refine TO.move rfl rfl rfl rfl ?_
            refine TO.bin rfl rfl rfl rfl rfl rfl ?_
            refine TO.pickT rfl rfl rfl rfl rfl ?_
            refine TO.done ?_
            exact X.jn (b := (decide (r19 = 0))) H (AllF.cons rfl (AllF.cons rfl (AllF.cons rfl (AllF.cons rfl (AllF.cons rfl (AllF.cons rfl (AllF.cons rfl AllF.nil)))))))
          ·
            refine TO.decB (t := 44) (b' := false) rfl (Bool.eq_false_iff.2 g61) ?_
            refine TO.shut rfl rfl rfl rfl ?_
            refine TO.shut rfl rfl rfl rfl ?_
            refine TO.pickF rfl rfl rfl rfl rfl ?_
            refine TO.done ?_
            exact X.jn (b := false) H (AllF.cons rfl (AllF.cons rfl (AllF.cons rfl (AllF.cons rfl (AllF.cons rfl (AllF.cons rfl (AllF.cons rfl AllF.nil)))))))
        · rintro b62 H
          unfold m_acequialaw04_awake_j2 at H
          rcases ite_some H with ⟨g63, H⟩ | ⟨g63, H⟩
          ·
            obtain ⟨r66, e67, H⟩ := bd_some H
            refine TO.move rfl rfl rfl rfl ?_
            refine TO.decB (t := 48) (b' := true) rfl g63 ?_
            refine TO.loadA rfl rfl rfl rfl TWS4.a24 (List.Mem.tail _ (List.Mem.tail _ (List.Mem.tail _ (List.Mem.tail _ (List.Mem.tail _ (List.Mem.tail _ (List.Mem.head _))))))) rfl ?_
            refine TO.move rfl rfl rfl rfl ?_
            refine TO.buildSliceS [.bool false, .bool false, .bool false, .bool false] [0, 1, 2, 3] rfl rfl rfl rfl TWS4.l31 TWS4.n4 TWS4.z4 rfl rfl (by simp only [setAll, setCells, Value.cells, List.toList_toArray, List.getD_cons_zero, List.getD_cons_succ, List.set_cons_zero, List.set_cons_succ]; rfl) (by kernel_rfl) ?_; intro b64
            refine TO.callX TWS4.c46 rfl rfl rfl rfl (fun wc hwc => w_cut_Tight (n0 := r1) (f1 := [5, 4, 3, 6, 2]) (s2 := [true, true, false, false]) wc (hwc.rs (f := arcC) (s := 3) (xs := r1.Arcs) (j := j6) (fun _ => rfl) (List.Mem.tail _ (List.Mem.tail _ (List.Mem.tail _ (List.Mem.tail _ (List.Mem.tail _ (List.Mem.tail _ (List.Mem.tail _ (List.Mem.tail _ (List.Mem.tail _ (List.Mem.head _)))))))))) hn7 hc8 hz10) (hwc.rs (f := (intC .i64)) (s := 1) (xs := [5, 4, 3, 6, 2]) (j := ([])) (fun _ => rfl) (List.Mem.tail _ (List.Mem.tail _ (List.Mem.tail _ (List.Mem.tail _ (List.Mem.tail _ (List.Mem.tail _ (List.Mem.tail _ (List.Mem.tail _ (List.Mem.head _))))))))) rfl (Nat.le_refl _) someZ) (hwc.rs (f := boolC) (s := 1) (xs := [true, true, false, false]) (j := ([])) (fun _ => rfl) (List.Mem.head _) rfl (Nat.le_refl _) someZ) e67) ?_
            rintro _ _ ⟨rfl, rfl⟩
            refine TO.pickT rfl rfl rfl rfl rfl ?_
            refine TO.move rfl rfl rfl rfl ?_
            refine TO.join [25, 26, 27] [28, 29, 30, 31, 32, 33, 34, 35, 36, 37, 38, 39, 40, 41, 42] rfl 57 (fun b69 => m_acequialaw04_awake_j3 r21 r33 r34 b69 = some r0) [(5, .slice (sb ob24) n25 c26), (7, .slice (sb ob36) n37 c38), (8, .int .i64 r34)] ?_ ?_
            ·
              rcases ite_some H with ⟨g68, H⟩ | ⟨g68, H⟩
              ·
                refine TO.decB (t := 54) (b' := true) rfl g68 ?_
                refine TO.move rfl rfl rfl rfl ?_
                refine TO.bin rfl rfl rfl rfl rfl rfl ?_
                refine TO.pickT rfl rfl rfl rfl rfl ?_
                refine TO.done ?_
                exact X.jn (b := (decide (r22 = 0))) H (AllF.cons rfl (AllF.cons rfl (AllF.cons rfl (AllF.cons rfl AllF.nil))))
              ·
                refine TO.decB (t := 54) (b' := false) rfl (Bool.eq_false_iff.2 g68) ?_
                refine TO.shut rfl rfl rfl rfl ?_
                refine TO.shut rfl rfl rfl rfl ?_
                refine TO.pickF rfl rfl rfl rfl rfl ?_
                refine TO.done ?_
                exact X.jn (b := false) H (AllF.cons rfl (AllF.cons rfl (AllF.cons rfl (AllF.cons rfl AllF.nil))))
            · rintro b69 H
              unfold m_acequialaw04_awake_j3 at H
              refine TO.move rfl rfl rfl rfl ?_
              refine TO.join [29, 30, 31] [32, 33, 34, 35, 36, 37, 38, 39, 40, 41, 42] rfl 61 (fun b71 => m_acequialaw04_awake_j4 r21 r33 b71 = some r0) [(5, .slice (sb ob24) n25 c26), (7, .slice (sb ob36) n37 c38)] ?_ ?_
              ·
                rcases ite_some H with ⟨g70, H⟩ | ⟨g70, H⟩
                ·
                  refine TO.decB (t := 58) (b' := true) rfl g70 ?_
                  refine TO.move rfl rfl rfl rfl ?_
                  refine TO.bin rfl rfl rfl rfl rfl rfl ?_
                  refine TO.pickT rfl rfl rfl rfl rfl ?_
                  refine TO.done ?_
                  exact X.jn (b := (decide (r34 = 0))) H (AllF.cons rfl (AllF.cons rfl (AllF.cons rfl AllF.nil)))
                ·
                  refine TO.decB (t := 58) (b' := false) rfl (Bool.eq_false_iff.2 g70) ?_
                  refine TO.shut rfl rfl rfl rfl ?_
                  refine TO.shut rfl rfl rfl rfl ?_
                  refine TO.pickF rfl rfl rfl rfl rfl ?_
                  refine TO.done ?_
                  exact X.jn (b := false) H (AllF.cons rfl (AllF.cons rfl (AllF.cons rfl AllF.nil)))
              · rintro b71 H
                unfold m_acequialaw04_awake_j4 at H
                rcases ite_some H with ⟨g72, H⟩ | ⟨g72, H⟩
                ·
                  obtain ⟨r75, e76, H⟩ := bd_some H
                  rcases ite_some H with ⟨g77, H⟩ | ⟨g77, H⟩
                  ·
                    obtain ⟨r80, e81, H⟩ := bd_some H
                    refine TO.move rfl rfl rfl rfl ?_
                    refine TO.decB (t := 62) (b' := true) rfl g72 ?_
                    refine TO.move rfl rfl rfl rfl ?_
                    refine TO.buildSliceS [.bool false, .bool false, .bool false, .bool false] [0, 1, 2, 3] rfl rfl rfl rfl TWS4.l31 TWS4.n4 TWS4.z4 rfl rfl (by simp only [setAll, setCells, Value.cells, List.toList_toArray, List.getD_cons_zero, List.getD_cons_succ, List.set_cons_zero, List.set_cons_succ]; rfl) (by kernel_rfl) ?_; intro b73
                    refine TO.callX TWS4.c49 rfl rfl rfl rfl (fun wc hwc => w_acequialow_Bools (a0 := r21) (b1 := [true, false, false, false]) wc (hwc.rs (f := boolC) (s := 1) (xs := r21) (j := j27) (fun _ => rfl) (List.Mem.tail _ (List.Mem.tail _ (List.Mem.tail _ (List.Mem.tail _ (List.Mem.tail _ (List.Mem.tail _ (List.Mem.head _))))))) hn28 hc29 hz31) (hwc.rs (f := boolC) (s := 1) (xs := [true, false, false, false]) (j := ([])) (fun _ => rfl) (List.Mem.head _) rfl (Nat.le_refl _) someZ) e76) ?_
                    rintro _ _ ⟨rfl, rfl⟩
                    refine TO.pickT rfl rfl rfl rfl rfl ?_
                    refine TO.move rfl rfl rfl rfl ?_
                    refine TO.decB (t := 67) (b' := true) rfl g77 ?_
                    refine TO.move rfl rfl rfl rfl ?_
                    refine TO.buildSliceS [.bool false, .bool false, .bool false, .bool false] [0, 1, 2, 3] rfl rfl rfl rfl TWS4.l31 TWS4.n4 TWS4.z4 rfl rfl (by simp only [setAll, setCells, Value.cells, List.toList_toArray, List.getD_cons_zero, List.getD_cons_succ, List.set_cons_zero, List.set_cons_succ]; rfl) (by kernel_rfl) ?_; intro b78
                    refine TO.callX TWS4.c49 rfl rfl rfl rfl (fun wc hwc => w_acequialow_Bools (a0 := r33) (b1 := [true, true, true, false]) wc (hwc.rs (f := boolC) (s := 1) (xs := r33) (j := j39) (fun _ => rfl) (List.Mem.tail _ (List.Mem.tail _ (List.Mem.tail _ (List.Mem.tail _ (List.Mem.tail _ (List.Mem.tail _ (List.Mem.head _))))))) hn40 hc41 hz43) (hwc.rs (f := boolC) (s := 1) (xs := [true, true, true, false]) (j := ([])) (fun _ => rfl) (List.Mem.head _) rfl (Nat.le_refl _) someZ) e81) ?_
                    rintro _ _ ⟨rfl, rfl⟩
                    refine TO.pickT rfl rfl rfl rfl rfl ?_
                    refine TO.assign rfl rfl rfl rfl ?_
                    refine TO.done ?_
                    refine X.seq_normal ?_
                    refine T.trim (AllF.cons (t := 0) rfl AllF.nil) ?_
                    refine T.ret ?_
                    obtain rfl := ret1 H
                    exact X.ret1 rfl rfl rfl rfl (Res.tmp rfl) Pick.nil ⟨rfl, rfl⟩
                  ·
                    refine TO.move rfl rfl rfl rfl ?_
                    refine TO.decB (t := 62) (b' := true) rfl g72 ?_
                    refine TO.move rfl rfl rfl rfl ?_
                    refine TO.buildSliceS [.bool false, .bool false, .bool false, .bool false] [0, 1, 2, 3] rfl rfl rfl rfl TWS4.l31 TWS4.n4 TWS4.z4 rfl rfl (by simp only [setAll, setCells, Value.cells, List.toList_toArray, List.getD_cons_zero, List.getD_cons_succ, List.set_cons_zero, List.set_cons_succ]; rfl) (by kernel_rfl) ?_; intro b73
                    refine TO.callX TWS4.c49 rfl rfl rfl rfl (fun wc hwc => w_acequialow_Bools (a0 := r21) (b1 := [true, false, false, false]) wc (hwc.rs (f := boolC) (s := 1) (xs := r21) (j := j27) (fun _ => rfl) (List.Mem.tail _ (List.Mem.tail _ (List.Mem.tail _ (List.Mem.tail _ (List.Mem.tail _ (List.Mem.tail _ (List.Mem.head _))))))) hn28 hc29 hz31) (hwc.rs (f := boolC) (s := 1) (xs := [true, false, false, false]) (j := ([])) (fun _ => rfl) (List.Mem.head _) rfl (Nat.le_refl _) someZ) e76) ?_
                    rintro _ _ ⟨rfl, rfl⟩
                    refine TO.pickT rfl rfl rfl rfl rfl ?_
                    refine TO.move rfl rfl rfl rfl ?_
                    refine TO.decB (t := 67) (b' := false) rfl (Bool.eq_false_iff.2 g77) ?_
                    refine TO.shut rfl rfl rfl rfl ?_
                    refine TO.shut rfl rfl rfl rfl ?_
                    refine TO.shut rfl rfl rfl rfl ?_
                    refine TO.pickF rfl rfl rfl rfl rfl ?_
                    refine TO.assign rfl rfl rfl rfl ?_
                    refine TO.done ?_
                    refine X.seq_normal ?_
                    refine T.trim (AllF.cons (t := 0) rfl AllF.nil) ?_
                    refine T.ret ?_
                    obtain rfl := ret1 H
                    exact X.ret1 rfl rfl rfl rfl (Res.tmp rfl) Pick.nil ⟨rfl, rfl⟩
                ·
                  refine TO.move rfl rfl rfl rfl ?_
                  refine TO.decB (t := 62) (b' := false) rfl (Bool.eq_false_iff.2 g72) ?_
                  refine TO.shut rfl rfl rfl rfl ?_
                  refine TO.shut rfl rfl rfl rfl ?_
                  refine TO.shut rfl rfl rfl rfl ?_
                  refine TO.pickF rfl rfl rfl rfl rfl ?_
                  refine TO.move rfl rfl rfl rfl ?_
                  refine TO.shut rfl rfl rfl rfl ?_
                  refine TO.shut rfl rfl rfl rfl ?_
                  refine TO.shut rfl rfl rfl rfl ?_
                  refine TO.pickF rfl rfl rfl rfl rfl ?_
                  refine TO.assign rfl rfl rfl rfl ?_
                  refine TO.done ?_
                  refine X.seq_normal ?_
                  refine T.trim (AllF.cons (t := 0) rfl AllF.nil) ?_
                  refine T.ret ?_
                  obtain rfl := ret1 H
                  exact X.ret1 rfl rfl rfl rfl (Res.tmp rfl) Pick.nil ⟨rfl, rfl⟩
          ·
            refine TO.move rfl rfl rfl rfl ?_
            refine TO.decB (t := 48) (b' := false) rfl (Bool.eq_false_iff.2 g63) ?_
            refine TO.shut rfl rfl rfl rfl ?_
            refine TO.shut rfl rfl rfl rfl ?_
            refine TO.shut rfl rfl rfl rfl ?_
            refine TO.shut rfl rfl rfl rfl ?_
            refine TO.pickF rfl rfl rfl rfl rfl ?_
            refine TO.move rfl rfl rfl rfl ?_
            refine TO.shut rfl rfl rfl rfl ?_
            refine TO.shut rfl rfl rfl rfl ?_
            refine TO.pickF rfl rfl rfl rfl rfl ?_
            refine TO.move rfl rfl rfl rfl ?_
            refine TO.shut rfl rfl rfl rfl ?_
            refine TO.shut rfl rfl rfl rfl ?_
            refine TO.pickF rfl rfl rfl rfl rfl ?_
            refine TO.move rfl rfl rfl rfl ?_
            refine TO.shut rfl rfl rfl rfl ?_
            refine TO.shut rfl rfl rfl rfl ?_
            refine TO.shut rfl rfl rfl rfl ?_
            refine TO.pickF rfl rfl rfl rfl rfl ?_
            refine TO.move rfl rfl rfl rfl ?_
            refine TO.shut rfl rfl rfl rfl ?_
            refine TO.shut rfl rfl rfl rfl ?_
            refine TO.shut rfl rfl rfl rfl ?_
            refine TO.pickF rfl rfl rfl rfl rfl ?_
            refine TO.assign rfl rfl rfl rfl ?_
            refine TO.done ?_
            refine X.seq_normal ?_
            refine T.trim (AllF.cons (t := 0) rfl AllF.nil) ?_
            refine T.ret ?_
            obtain rfl := ret1 H
            exact X.ret1 rfl rfl rfl rfl (Res.tmp rfl) Pick.nil ⟨rfl, rfl⟩
    ·
      refine T.regionL (ll := [0, 1, 2, 3, 4, 5, 6, 7, 8, 9, 10, 11, 12, 13, 14, 15, 16, 17, 18, 19, 20, 21, 22, 23, 24, 25, 26, 27, 28, 29, 30, 31, 32, 33, 34, 35, 36, 37, 38, 39, 40, 41, 42]) rfl ?_
      refine TO.buildSliceS [.bool false, .bool false, .bool false, .bool false] [0, 1, 2, 3] rfl rfl rfl rfl TWS4.l31 TWS4.n4 TWS4.z4 rfl rfl (by simp only [setAll, setCells, Value.cells, List.toList_toArray, List.getD_cons_zero, List.getD_cons_succ, List.set_cons_zero, List.set_cons_succ]; rfl) (by kernel_rfl) ?_; intro b45
      refine TO.callX TWS4.c71 rfl rfl rfl rfl (fun wc hwc => w_acequialaw04_caps (want0 := 9) (s1 := [true, false, false, false]) wc (hwc.rs (f := boolC) (s := 1) (xs := [true, false, false, false]) (j := ([])) (fun _ => rfl) (List.Mem.head _) rfl (Nat.le_refl _) someZ) e48) ?_
      rintro _ _ ⟨rfl, rfl⟩
      refine TO.move rfl rfl rfl rfl ?_
      refine TO.decB (t := 32) (b' := true) rfl g49 ?_
      refine TO.buildSliceS [.bool false, .bool false, .bool false, .bool false] [0, 1, 2, 3] rfl rfl rfl rfl TWS4.l31 TWS4.n4 TWS4.z4 rfl rfl (by simp only [setAll, setCells, Value.cells, List.toList_toArray, List.getD_cons_zero, List.getD_cons_succ, List.set_cons_zero, List.set_cons_succ]; rfl) (by kernel_rfl) ?_; intro b50
      refine TO.callX TWS4.c71 rfl rfl rfl rfl (fun wc hwc => w_acequialaw04_caps (want0 := 9) (s1 := [true, true, false, false]) wc (hwc.rs (f := boolC) (s := 1) (xs := [true, true, false, false]) (j := ([])) (fun _ => rfl) (List.Mem.head _) rfl (Nat.le_refl _) someZ) e53) ?_
      rintro _ _ ⟨rfl, rfl⟩
      refine TO.pickT rfl rfl rfl rfl rfl ?_
      refine TO.move rfl rfl rfl rfl ?_
      refine TO.decB (t := 36) (b' := false) rfl (Bool.eq_false_iff.2 g54) ?_
      refine TO.shut rfl rfl rfl rfl ?_
      refine TO.shut rfl rfl rfl rfl ?_
      refine TO.pickF rfl rfl rfl rfl rfl ?_
      refine TO.move rfl rfl rfl rfl ?_
      refine TO.shut rfl rfl rfl rfl ?_
      refine TO.shut rfl rfl rfl rfl ?_
      refine TO.pickF rfl rfl rfl rfl rfl ?_
      refine TO.move rfl rfl rfl rfl ?_
      refine TO.shut rfl rfl rfl rfl ?_
      refine TO.shut rfl rfl rfl rfl ?_
      refine TO.pickF rfl rfl rfl rfl rfl ?_
      refine TO.move rfl rfl rfl rfl ?_
      refine TO.shut rfl rfl rfl rfl ?_
      refine TO.shut rfl rfl rfl rfl ?_
      refine TO.shut rfl rfl rfl rfl ?_
      refine TO.shut rfl rfl rfl rfl ?_
      refine TO.pickF rfl rfl rfl rfl rfl ?_
      refine TO.move rfl rfl rfl rfl ?_
      refine TO.shut rfl rfl rfl rfl ?_
      refine TO.shut rfl rfl rfl rfl ?_
      refine TO.pickF rfl rfl rfl rfl rfl ?_
      refine TO.move rfl rfl rfl rfl ?_
      refine TO.shut rfl rfl rfl rfl ?_
      refine TO.shut rfl rfl rfl rfl ?_
      refine TO.pickF rfl rfl rfl rfl rfl ?_
      refine TO.move rfl rfl rfl rfl ?_
      refine TO.shut rfl rfl rfl rfl ?_
      refine TO.shut rfl rfl rfl rfl ?_
      refine TO.shut rfl rfl rfl rfl ?_
      refine TO.pickF rfl rfl rfl rfl rfl ?_
      refine TO.move rfl rfl rfl rfl ?_
      refine TO.shut rfl rfl rfl rfl ?_
      refine TO.shut rfl rfl rfl rfl ?_
      refine TO.shut rfl rfl rfl rfl ?_
      refine TO.pickF rfl rfl rfl rfl rfl ?_
      refine TO.assign rfl rfl rfl rfl ?_
      refine TO.done ?_
      refine X.seq_normal ?_
      refine T.trim (AllF.cons (t := 0) rfl AllF.nil) ?_
      refine T.ret ?_
      obtain rfl := ret1 H
      exact X.ret1 rfl rfl rfl rfl (Res.tmp rfl) Pick.nil ⟨rfl, rfl⟩
  ·
    refine T.regionL (ll := [0, 1, 2, 3, 4, 5, 6, 7, 8, 9, 10, 11, 12, 13, 14, 15, 16, 17, 18, 19, 20, 21, 22, 23, 24, 25, 26, 27, 28, 29, 30, 31, 32, 33, 34, 35, 36, 37, 38, 39, 40, 41, 42]) rfl ?_
    refine TO.buildSliceS [.bool false, .bool false, .bool false, .bool false] [0, 1, 2, 3] rfl rfl rfl rfl TWS4.l31 TWS4.n4 TWS4.z4 rfl rfl (by simp only [setAll, setCells, Value.cells, List.toList_toArray, List.getD_cons_zero, List.getD_cons_succ, List.set_cons_zero, List.set_cons_succ]; rfl) (by kernel_rfl) ?_; intro b45
    refine TO.callX TWS4.c71 rfl rfl rfl rfl (fun wc hwc => w_acequialaw04_caps (want0 := 9) (s1 := [true, false, false, false]) wc (hwc.rs (f := boolC) (s := 1) (xs := [true, false, false, false]) (j := ([])) (fun _ => rfl) (List.Mem.head _) rfl (Nat.le_refl _) someZ) e48) ?_
    rintro _ _ ⟨rfl, rfl⟩
    refine TO.move rfl rfl rfl rfl ?_
    refine TO.decB (t := 32) (b' := false) rfl (Bool.eq_false_iff.2 g49) ?_
    refine TO.shut rfl rfl rfl rfl ?_
    refine TO.shut rfl rfl rfl rfl ?_
    refine TO.pickF rfl rfl rfl rfl rfl ?_
    refine TO.move rfl rfl rfl rfl ?_
    refine TO.shut rfl rfl rfl rfl ?_
    refine TO.shut rfl rfl rfl rfl ?_
    refine TO.pickF rfl rfl rfl rfl rfl ?_
    refine TO.move rfl rfl rfl rfl ?_
    refine TO.shut rfl rfl rfl rfl ?_
    refine TO.shut rfl rfl rfl rfl ?_
    refine TO.pickF rfl rfl rfl rfl rfl ?_
    refine TO.move rfl rfl rfl rfl ?_
    refine TO.shut rfl rfl rfl rfl ?_
    refine TO.shut rfl rfl rfl rfl ?_
    refine TO.pickF rfl rfl rfl rfl rfl ?_
    refine TO.move rfl rfl rfl rfl ?_
    refine TO.shut rfl rfl rfl rfl ?_
    refine TO.shut rfl rfl rfl rfl ?_
    refine TO.shut rfl rfl rfl rfl ?_
    refine TO.shut rfl rfl rfl rfl ?_
    refine TO.pickF rfl rfl rfl rfl rfl ?_
    refine TO.move rfl rfl rfl rfl ?_
    refine TO.shut rfl rfl rfl rfl ?_
    refine TO.shut rfl rfl rfl rfl ?_
    refine TO.pickF rfl rfl rfl rfl rfl ?_
    refine TO.move rfl rfl rfl rfl ?_
    refine TO.shut rfl rfl rfl rfl ?_
    refine TO.shut rfl rfl rfl rfl ?_
    refine TO.pickF rfl rfl rfl rfl rfl ?_
    refine TO.move rfl rfl rfl rfl ?_
    refine TO.shut rfl rfl rfl rfl ?_
    refine TO.shut rfl rfl rfl rfl ?_
    refine TO.shut rfl rfl rfl rfl ?_
    refine TO.pickF rfl rfl rfl rfl rfl ?_
    refine TO.move rfl rfl rfl rfl ?_
    refine TO.shut rfl rfl rfl rfl ?_
    refine TO.shut rfl rfl rfl rfl ?_
    refine TO.shut rfl rfl rfl rfl ?_
    refine TO.pickF rfl rfl rfl rfl rfl ?_
    refine TO.assign rfl rfl rfl rfl ?_
    refine TO.done ?_
    refine X.seq_normal ?_
    refine T.trim (AllF.cons (t := 0) rfl AllF.nil) ?_
    refine T.ret ?_
    obtain rfl := ret1 H
    exact X.ret1 rfl rfl rfl rfl (Res.tmp rfl) Pick.nil ⟨rfl, rfl⟩
end Go.Proofs.Ytcdbemdogkmahaa.Ax
