/- What a call does is what its model says: acequialaw02.CsrRows, bits.Mul, bits.Mul64, csr.Forward, slices.Repeat[[]int,int]. (Printed by sx.py.) -/
import Derived.Test.YtcdbemdogkmahaaAcqMLCsrRows
import Derived.Test.YtcdbemdogkmahaaAcqRw
import Derived.Test.YtcdbemdogkmahaaAcqWS3
namespace Go.Proofs.Ytcdbemdogkmahaa.Ax
open Go Go.Acq Go.RowKit Go.Proofs
set_option linter.unusedVariables false
set_option linter.unusedSimpArgs false
set_option maxHeartbeats 8000000
set_option maxRecDepth 20000
theorem TWLCsrRows.a24 : aggT Try.prog 24 4 = true := by kernel_rfl
theorem TWLCsrRows.a28 : aggT Try.prog 28 3 = true := by kernel_rfl
theorem TWLCsrRows.a33 : aggT Try.prog 33 9 = true := by kernel_rfl
theorem TWLCsrRows.b3 : bytesT Try.prog 3 = some 8 := by kernel_rfl
theorem TWLCsrRows.c17 : callable Try.prog 17 = true := by kernel_rfl
theorem TWLCsrRows.c19 : callable Try.prog 19 = true := by kernel_rfl
theorem TWLCsrRows.c22 : callable Try.prog 22 = true := by kernel_rfl
theorem TWLCsrRows.c23 : callable Try.prog 23 = true := by kernel_rfl
theorem TWLCsrRows.c26 : callable Try.prog 26 = true := by kernel_rfl
theorem TWLCsrRows.c38 : callable Try.prog 38 = true := by kernel_rfl
theorem TWLCsrRows.c66 : callable Try.prog 66 = true := by kernel_rfl
theorem TWLCsrRows.c81 : callable Try.prog 81 = true := by kernel_rfl
theorem TWLCsrRows.c96 : callable Try.prog 96 = true := by kernel_rfl
theorem TWLCsrRows.f24_0 : fieldT Try.prog 24 0 = some 0 := by kernel_rfl
theorem TWLCsrRows.f24_3 : fieldT Try.prog 24 3 = some 3 := by kernel_rfl
theorem TWLCsrRows.f28_0 : fieldT Try.prog 28 0 = some 0 := by kernel_rfl
theorem TWLCsrRows.f28_1 : fieldT Try.prog 28 1 = some 1 := by kernel_rfl
theorem TWLCsrRows.f33_3 : fieldT Try.prog 33 3 = some 3 := by kernel_rfl
theorem TWLCsrRows.f33_7 : fieldT Try.prog 33 7 = some 7 := by kernel_rfl
theorem TWLCsrRows.f33_8 : fieldT Try.prog 33 8 = some 8 := by kernel_rfl
theorem TWLCsrRows.i115 : intT Try.prog 115 = some .u64 := by kernel_rfl
theorem TWLCsrRows.i3 : intT Try.prog 3 = some .i64 := by kernel_rfl
theorem TWLCsrRows.l22 : sliceT Try.prog 22 = some 28 := by kernel_rfl
theorem TWLCsrRows.l30 : sliceT Try.prog 30 = some 3 := by kernel_rfl
theorem TWLCsrRows.l31 : sliceT Try.prog 31 = some 4 := by kernel_rfl
theorem TWLCsrRows.n24 : sizeT Try.prog 24 = some 4 := by kernel_rfl
theorem TWLCsrRows.n28 : sizeT Try.prog 28 = some 3 := by kernel_rfl
theorem TWLCsrRows.n3 : sizeT Try.prog 3 = some 1 := by kernel_rfl
theorem TWLCsrRows.n33 : sizeT Try.prog 33 = some 9 := by kernel_rfl
theorem TWLCsrRows.n4 : sizeT Try.prog 4 = some 1 := by kernel_rfl
theorem TWLCsrRows.o115 : (Try.prog.underlying 115).isSome = true := by kernel_rfl
theorem TWLCsrRows.o3 : (Try.prog.underlying 3).isSome = true := by kernel_rfl
theorem TWLCsrRows.s22 : scalT Try.prog 22 = true := by kernel_rfl
theorem TWLCsrRows.s3 : scalT Try.prog 3 = true := by kernel_rfl
theorem TWLCsrRows.s30 : scalT Try.prog 30 = true := by kernel_rfl
theorem TWLCsrRows.s31 : scalT Try.prog 31 = true := by kernel_rfl
theorem TWLCsrRows.s4 : scalT Try.prog 4 = true := by kernel_rfl
theorem TWLCsrRows.u4 : Try.prog.underlying 4 = some .bool := by kernel_rfl
theorem TWLCsrRows.z28 : zeroT Try.prog 28 = some (.agg #[.int .i64 0, .int .i64 0, .int .i64 0]) := by kernel_rfl
theorem TWLCsrRows.z3 : zeroT Try.prog 3 = some (.int .i64 0) := by kernel_rfl
theorem TWLCsrRows.z33 : zeroT Try.prog 33 = some (.agg #[.int .i64 0, .int .i64 0, .int .i64 0, .slice none 0 0, .slice none 0 0, .slice none 0 0, .slice none 0 0, .slice none 0 0, .slice none 0 0]) := by kernel_rfl

/-- math/bits.Mul64 -/
theorem w_bits_Mul64 {x0 : Int} {y1 : Int} (w : World) {r0 : Int} {r1 : Int} (H : m_bits_Mul64 x0 y1 = some (r0, r1)) : Fnc Try.prog 96 #[.int .u64 x0, .int .u64 y1] w [] (fun v N => v = .tuple #[.int .u64 r0, .int .u64 r1] ∧ N = []) := by
  unfold m_bits_Mul64 at H
  refine Fnc.enter (vs := [.int .u64 x0, .int .u64 y1]) Try.func96 rfl rfl (Inv.refl w) ?_
  refine T.seq ?_
  refine T.regionL (ll := [0, 1]) rfl ?_
  refine TO.assign rfl rfl rfl rfl ?_
  refine TO.assign rfl rfl rfl rfl ?_
  refine TO.done ?_
  refine X.seq_normal ?_
  refine T.seq ?_
  obtain ⟨g1, H⟩ := gd_some H
  refine T.regionL (ll := [0, 1, 2]) rfl ?_
  refine TO.move rfl rfl rfl rfl ?_
  refine TO.andM g1 rfl rfl rfl rfl rfl ?_
  refine TO.assign rfl rfl rfl rfl ?_
  refine TO.done ?_
  refine X.seq_normal ?_
  refine T.seq ?_
  refine T.regionL (ll := [0, 1, 2]) rfl ?_
  refine TO.move rfl rfl rfl rfl ?_
  refine TO.shrL (m := 32) rfl rfl rfl rfl rfl rfl rfl ?_
  refine TO.assign rfl rfl rfl rfl ?_
  refine TO.done ?_
  refine X.seq_normal ?_
  refine T.seq ?_
  obtain ⟨g2, H⟩ := gd_some H
  refine T.regionL (ll := [0, 1, 2]) rfl ?_
  refine TO.move rfl rfl rfl rfl ?_
  refine TO.andM g2 rfl rfl rfl rfl rfl ?_
  refine TO.assign rfl rfl rfl rfl ?_
  refine TO.done ?_
  refine X.seq_normal ?_
  refine T.trim (AllF.cons (t := 0) rfl (AllF.cons (t := 1) rfl (AllF.cons (t := 6) rfl (AllF.cons (t := 7) rfl (AllF.cons (t := 8) rfl AllF.nil))))) ?_
  refine T.seq ?_
  refine T.regionL (ll := [0, 1, 2]) rfl ?_
  refine TO.move rfl rfl rfl rfl ?_
  refine TO.shrL (m := 32) rfl rfl rfl rfl rfl rfl rfl ?_
  refine TO.assign rfl rfl rfl rfl ?_
  refine TO.done ?_
  refine X.seq_normal ?_
  refine T.seq ?_
  obtain ⟨g3, H⟩ := gd_some H
  refine T.regionL (ll := [0, 1, 2, 3]) rfl ?_
  refine TO.move rfl rfl rfl rfl ?_
  refine TO.move rfl rfl rfl rfl ?_
  refine TO.mulK (wrap_u64_of g3) rfl rfl rfl rfl rfl ?_
  refine TO.assign rfl rfl rfl rfl ?_
  refine TO.done ?_
  refine X.seq_normal ?_
  refine T.seq ?_
  obtain ⟨g4, H⟩ := gd_some H
  obtain ⟨g5, H⟩ := gd_some H
  refine T.regionL (ll := [0, 1, 2, 3, 4, 5, 6]) rfl ?_
  refine TO.move rfl rfl rfl rfl ?_
  refine TO.move rfl rfl rfl rfl ?_
  refine TO.mulK (wrap_u64_of g4) rfl rfl rfl rfl rfl ?_
  refine TO.move rfl rfl rfl rfl ?_
  refine TO.shrL (m := 32) rfl rfl rfl rfl rfl rfl rfl ?_
  refine TO.addK (wrap_u64_of g5) rfl rfl rfl rfl rfl ?_
  refine TO.assign rfl rfl rfl rfl ?_
  refine TO.done ?_
  refine X.seq_normal ?_
  refine T.trim (AllF.cons (t := 0) rfl (AllF.cons (t := 1) rfl (AllF.cons (t := 6) rfl (AllF.cons (t := 7) rfl (AllF.cons (t := 9) rfl (AllF.cons (t := 11) rfl AllF.nil)))))) ?_
  refine T.seq ?_
  obtain ⟨g6, H⟩ := gd_some H
  refine T.regionL (ll := [0, 1, 2]) rfl ?_
  refine TO.move rfl rfl rfl rfl ?_
  refine TO.andM g6 rfl rfl rfl rfl rfl ?_
  refine TO.assign rfl rfl rfl rfl ?_
  refine TO.done ?_
  refine X.seq_normal ?_
  refine T.seq ?_
  refine T.regionL (ll := [0, 1, 2]) rfl ?_
  refine TO.move rfl rfl rfl rfl ?_
  refine TO.shrL (m := 32) rfl rfl rfl rfl rfl rfl rfl ?_
  refine TO.assign rfl rfl rfl rfl ?_
  refine TO.done ?_
  refine X.seq_normal ?_
  refine T.seq ?_
  obtain ⟨g7, H⟩ := gd_some H
  obtain ⟨g8, H⟩ := gd_some H
  refine T.regionL (ll := [0, 1, 2, 3, 4, 5]) rfl ?_
  refine TO.move rfl rfl rfl rfl ?_
  refine TO.move rfl rfl rfl rfl ?_
  refine TO.move rfl rfl rfl rfl ?_
  refine TO.mulK (wrap_u64_of g7) rfl rfl rfl rfl rfl ?_
  refine TO.addK (wrap_u64_of g8) rfl rfl rfl rfl rfl ?_
  refine TO.assign rfl rfl rfl rfl ?_
  refine TO.done ?_
  refine X.seq_normal ?_
  refine T.trim (AllF.cons (t := 0) rfl (AllF.cons (t := 1) rfl (AllF.cons (t := 7) rfl (AllF.cons (t := 9) rfl (AllF.cons (t := 12) rfl (AllF.cons (t := 13) rfl AllF.nil)))))) ?_
  refine T.seq ?_
  obtain ⟨g9, H⟩ := gd_some H
  obtain ⟨g10, H⟩ := gd_some H
  obtain ⟨g11, H⟩ := gd_some H
  refine T.regionL (ll := [0, 1, 2, 3, 4, 5, 6, 7, 8]) rfl ?_
  refine TO.move rfl rfl rfl rfl ?_
  refine TO.move rfl rfl rfl rfl ?_
  refine TO.mulK (wrap_u64_of g9) rfl rfl rfl rfl rfl ?_
  refine TO.move rfl rfl rfl rfl ?_
  refine TO.addK (wrap_u64_of g10) rfl rfl rfl rfl rfl ?_
  refine TO.move rfl rfl rfl rfl ?_
  refine TO.shrL (m := 32) rfl rfl rfl rfl rfl rfl rfl ?_
  refine TO.addK (wrap_u64_of g11) rfl rfl rfl rfl rfl ?_
  refine TO.assign rfl rfl rfl rfl ?_
  refine TO.done ?_
  refine X.seq_normal ?_
  refine T.trim (AllF.cons (t := 0) rfl (AllF.cons (t := 1) rfl (AllF.cons (t := 4) rfl AllF.nil))) ?_
  refine T.seq ?_
  obtain ⟨g12, H⟩ := gd_some H
  refine T.regionL (ll := [0, 1, 2, 3]) rfl ?_
  refine TO.move rfl rfl rfl rfl ?_
  refine TO.move rfl rfl rfl rfl ?_
  refine TO.mulK (wrap_u64_of g12) rfl rfl rfl rfl rfl ?_
  refine TO.assign rfl rfl rfl rfl ?_
  refine TO.done ?_
  refine X.seq_normal ?_
  refine T.ret ?_
  obtain ⟨rfl, rfl⟩ := ret2 H
  exact X.ret2 rfl rfl rfl rfl (Res.tmp rfl) (Res.tmp rfl) Pick.nil ⟨rfl, rfl⟩
/-- math/bits.Mul -/
theorem w_bits_Mul {x0 : Int} {y1 : Int} (w : World) {r0 : Int} {r1 : Int} (H : m_bits_Mul x0 y1 = some (r0, r1)) : Fnc Try.prog 81 #[.int .u64 x0, .int .u64 y1] w [] (fun v N => v = .tuple #[.int .u64 r0, .int .u64 r1] ∧ N = []) := by
  unfold m_bits_Mul at H
  refine Fnc.enter (vs := [.int .u64 x0, .int .u64 y1]) Try.func81 rfl rfl (Inv.refl w) ?_
  refine T.seq ?_
  refine T.regionL (ll := [0, 1]) rfl ?_
  refine TO.assign rfl rfl rfl rfl ?_
  refine TO.assign rfl rfl rfl rfl ?_
  refine TO.done ?_
  refine X.seq_normal ?_
  refine T.seq ?_
  refine T.condF rfl rfl ?_
  refine T.skip ?_
  refine X.seq_normal ?_
  refine T.seq ?_
  obtain ⟨⟨r1, r2⟩, e3, H⟩ := bd_some H
  refine T.regionL (ll := [0, 1, 2, 3, 4, 5, 6, 7]) rfl ?_
  refine TO.move rfl rfl rfl rfl ?_
  refine TO.move rfl rfl rfl rfl ?_
  refine TO.callX TWLCsrRows.c96 rfl rfl rfl rfl (fun wc hwc => w_bits_Mul64 (x0 := x0) (y1 := y1) wc  e3) ?_
  rintro _ _ ⟨rfl, rfl⟩
  refine TO.move rfl rfl rfl rfl ?_
  refine TO.extract rfl rfl rfl rfl rfl ?_
  refine TO.extract rfl rfl rfl rfl rfl ?_
  refine TO.assign rfl rfl rfl rfl ?_
  refine TO.assign rfl rfl rfl rfl ?_
  refine TO.done ?_
  refine X.seq_normal ?_
  refine T.trim (AllF.cons (t := 8) rfl (AllF.cons (t := 9) rfl AllF.nil)) ?_
  refine T.seq ?_
  refine T.regionL (ll := [0, 1, 2, 3]) rfl ?_
  refine TO.move rfl rfl rfl rfl ?_
  refine TO.move rfl rfl rfl rfl ?_
  refine TO.assign rfl rfl rfl rfl ?_
  refine TO.assign rfl rfl rfl rfl ?_
  refine TO.done ?_
  refine X.seq_normal ?_
  refine T.ret ?_
  obtain ⟨rfl, rfl⟩ := ret2 H
  exact X.ret2 rfl rfl rfl rfl (Res.tmp rfl) (Res.tmp rfl) Pick.nil ⟨rfl, rfl⟩
/-- slices.Repeat[[]int,int] -/
theorem w_slices_Repeat_int {x0 : List Int} {count1 : Int} {x0_b : Option Addr} {x0_n : Nat} {x0_c : Nat} (w : World) (h_x0 : RS w [] (intC .i64) 1 x0_b x0_n x0_c x0) {r0 : List Int} (H : m_slices_Repeat_int x0 count1 = some r0) : Fnc Try.prog 66 #[.slice x0_b x0_n x0_c, .int .i64 count1] w [] (fun v N => ∃ (ob_0 : Option Nat) (n_0 : Nat) (c_0 : Nat) (j_0 : List Value), v = .slice (sb ob_0) n_0 c_0 ∧ N = [(ob_0, .cells (arr (intC .i64) r0 j_0).toArray 3 (0, 0))] ∧ r0.length = n_0 ∧ n_0 ≤ c_0 ∧ j_0.length = (c_0 - n_0) * 1 ∧ (ob_0 = none → c_0 = 0)) := by
  unfold m_slices_Repeat_int at H
  refine Fnc.enter (vs := [.slice x0_b x0_n x0_c, .int .i64 count1]) Try.func66 rfl rfl (Inv.refl w) ?_
  refine T.seq ?_
  refine T.regionL (ll := [0]) rfl ?_
  refine TO.assign rfl rfl rfl rfl ?_
  refine TO.done ?_
  refine X.seq_normal ?_
  refine T.seq ?_
  refine T.seq ?_
  refine T.regionL (ll := [0, 1]) rfl ?_
  refine TO.move rfl rfl rfl rfl ?_
  refine TO.bin rfl rfl rfl rfl rfl rfl ?_
  refine TO.done ?_
  refine X.seq_normal ?_
  rcases ite_some H with ⟨g1, H⟩ | ⟨g1, H⟩
  ·
    refine T.condPT rfl g1 ?_
    cases H
  ·
    refine T.condPF rfl g1 ?_
    refine T.skip ?_
    refine X.seq_normal ?_
    refine T.seq ?_
    obtain ⟨g2, H⟩ := gd_some H
    obtain ⟨g3, H⟩ := gd_some H
    obtain ⟨⟨r4, r5⟩, e6, H⟩ := bd_some H
    refine T.regionL (ll := [0, 1, 2, 3, 4, 5, 6, 7, 8, 9, 10]) rfl ?_
    refine TO.move rfl rfl rfl rfl ?_
    refine TO.lenX (xs := x0) h_x0.len rfl rfl rfl rfl rfl TWLCsrRows.l30 ?_
    refine TO.convIn rfl rfl rfl rfl TWLCsrRows.o3 TWLCsrRows.i115 (wrap_u64_of g2) ?_
    refine TO.move rfl rfl rfl rfl ?_
    refine TO.convIn rfl rfl rfl rfl TWLCsrRows.o3 TWLCsrRows.i115 (wrap_u64_of g3) ?_
    refine TO.callX TWLCsrRows.c81 rfl rfl rfl rfl (fun wc hwc => w_bits_Mul (x0 := (x0.length : Int)) (y1 := count1) wc  e6) ?_
    rintro _ _ ⟨rfl, rfl⟩
    refine TO.move rfl rfl rfl rfl ?_
    refine TO.extract rfl rfl rfl rfl rfl ?_
    refine TO.extract rfl rfl rfl rfl rfl ?_
    refine TO.assign rfl rfl rfl rfl ?_
    refine TO.assign rfl rfl rfl rfl ?_
    refine TO.done ?_
    refine X.seq_normal ?_
    refine T.trim (AllF.cons (t := 0) rfl (AllF.cons (t := 5) rfl (AllF.cons (t := 6) rfl AllF.nil))) ?_
    refine T.seq ?_
    refine T.seq ?_
    refine T.meetSE1 (fun (x8 : Bool) => m_slices_Repeat_int_j1 x0 r5 x8 = some r0) (fun (x8 : Bool) => [(0, .slice x0_b x0_n x0_c), (6, .int .u64 r5), (26, .bool x8)]) (fun (x8 : Bool) => []) ?_ ?_
    ·
      rcases ite_some H with ⟨g7, H⟩ | ⟨g7, H⟩
      ·
        refine T.regionL (ll := [0, 1, 2, 3, 4, 5]) rfl ?_
        refine TO.move rfl rfl rfl rfl ?_
        refine TO.bin rfl rfl rfl rfl rfl rfl ?_
        refine TO.move rfl rfl rfl rfl ?_
        refine TO.decB (t := 23) (b' := true) rfl (decide_eq_true g7) ?_
        refine TO.shut rfl rfl rfl rfl ?_
        refine TO.shut rfl rfl rfl rfl ?_
        refine TO.pickT rfl rfl rfl rfl rfl ?_
        refine TO.done ?_
        exact X.metE1 true H (AllF.cons rfl (AllF.cons rfl (AllF.cons rfl AllF.nil))) Pick.nil
      ·
        refine T.regionL (ll := [0, 1, 2, 3, 4, 5]) rfl ?_
        refine TO.move rfl rfl rfl rfl ?_
        refine TO.bin rfl rfl rfl rfl rfl rfl ?_
        refine TO.move rfl rfl rfl rfl ?_
        refine TO.decB (t := 23) (b' := false) rfl (decide_eq_false g7) ?_
        refine TO.move rfl rfl rfl rfl ?_
        refine TO.bin rfl rfl rfl rfl rfl rfl ?_
        refine TO.pickF rfl rfl rfl rfl rfl ?_
        refine TO.done ?_
        exact X.metE1 (decide (9223372036854775807 < r5)) H (AllF.cons rfl (AllF.cons rfl (AllF.cons rfl AllF.nil))) Pick.nil
    · rintro x8 H
      unfold m_slices_Repeat_int_j1 at H
      rcases ite_some H with ⟨g9, H⟩ | ⟨g9, H⟩
      ·
        refine T.condT rfl g9 ?_
        cases H
      ·
        refine T.condF rfl (Bool.eq_false_iff.2 g9) ?_
        refine T.skip ?_
        refine X.seq_normal ?_
        refine T.seq ?_
        obtain ⟨g10, H⟩ := gd_some H
        obtain ⟨g11, H⟩ := gd_some H
        refine T.regionL (ll := [0, 1, 2, 3]) rfl ?_
        refine TO.move rfl rfl rfl rfl ?_
        refine TO.convIn rfl rfl rfl rfl TWLCsrRows.o115 TWLCsrRows.i3 (wrap_i64_of g10.1 g10.2) ?_
        refine TO.mkI g11 rfl rfl rfl rfl rfl TWLCsrRows.l30 TWLCsrRows.n3 TWLCsrRows.z3 TWLCsrRows.b3 rfl ?_; intro b12
        refine TO.assign rfl rfl rfl rfl ?_
        refine TO.done ?_
        refine X.seq_normal ?_
        refine T.seq ?_
        refine T.regionL (ll := [0, 1, 2, 3]) rfl ?_
        refine TO.move rfl rfl rfl rfl ?_
        refine TO.move rfl rfl rfl rfl ?_
        refine TO.copyO (f := (intC .i64)) (s := 1) (xs := (List.replicate r5.toNat (0 : Int))) (ob := some b12) (j := ([])) (ys := x0) (fun _ => rfl) (fun _ => rfl) List.length_replicate (Nat.le_refl _) someZ rfl rfl rfl rfl rfl TWLCsrRows.l30 TWLCsrRows.n3 (Take.head _ _) (fun wc hwc => (h_x0.mono hwc)) ?_
        refine TO.assign rfl rfl rfl rfl ?_
        refine TO.done ?_
        refine X.seq_normal ?_
        refine T.trim (AllF.cons (t := 7) rfl (AllF.cons (t := 8) rfl AllF.nil)) ?_
        refine T.seq ?_
        refine T.meetSE1 (fun (xs21 : List Int) => m_slices_Repeat_int_j3 xs21 = some r0 ∧ xs21.length = r5.toNat) (fun (xs21 : List Int) => [(7, .slice (some ⟨b12, 0, none⟩) r5.toNat r5.toNat)]) (fun (xs21 : List Int) => [(some b12, .cells (arr (intC .i64) xs21 ([])).toArray 3 (0, 0))]) ?_ ?_
        ·
          refine T.block ?_
          obtain ⟨o_2, e_2, K_2⟩ := bd_some H
          refine T.loopE3 (fun (m_2 : Nat) (xs14 : List Int) (n16 : Int) => loopM (fun s => m_slices_Repeat_int_s2 s.1 s.2) m_2 (xs14, n16) = some o_2 ∧ xs14.length = r5.toNat) (fun (m_2 : Nat) (xs14 : List Int) (n16 : Int) => [(7, .slice (some ⟨b12, 0, none⟩) r5.toNat r5.toNat), (8, .int .i64 n16)]) (fun (m_2 : Nat) (xs14 : List Int) (n16 : Int) => [(some b12, .cells (arr (intC .i64) xs14 ([])).toArray 3 (0, 0))]) (fun (m_2 : Nat) (xs14 : List Int) (n16 : Int) => m_2) FUEL (cpy (List.replicate r5.toNat (0 : Int)) x0) ((min (List.replicate r5.toNat (0 : Int)).length x0.length : Nat) : Int) ⟨e_2, (cpy_len List.length_replicate)⟩ (AllF.cons rfl (AllF.cons rfl AllF.nil)) (Pick.cons (Take.head _ _) Pick.nil) ?_
          rintro m_2 xs14 n16 ⟨H, hn15⟩
          obtain ⟨n_2, r_2, rfl, H, C_2⟩ := loopM_some H
          have H : m_slices_Repeat_int_s2 xs14 n16 = some r_2 := H
          unfold m_slices_Repeat_int_s2 at H
          refine T.seq ?_
          refine T.seq ?_
          refine T.regionL (ll := [0, 1, 2, 3]) rfl ?_
          refine TO.move rfl rfl rfl rfl ?_
          refine TO.move rfl rfl rfl rfl ?_
          refine TO.lenX (xs := xs14) hn15 rfl rfl rfl rfl rfl TWLCsrRows.l30 ?_
          refine TO.bin rfl rfl rfl rfl rfl rfl ?_
          refine TO.done ?_
          refine X.seq_normal ?_
          rcases ite_some H with ⟨g17, H⟩ | ⟨g17, H⟩
          ·
            refine T.condPT rfl g17 ?_
            refine T.skip ?_
            refine X.seq_normal ?_
            refine T.block ?_
            obtain ⟨g18, H⟩ := gd_some H
            obtain ⟨g19, H⟩ := gd_some H
            obtain ⟨g20, H⟩ := gd_some H
            apply T.drawL [⟨[], false, [], relV _⟩, ⟨[], false, [], relV _⟩, ⟨[], false, [], relV _⟩, ⟨[1, 2], false, [], relV _⟩, ⟨[], false, [], relV _⟩, ⟨[], false, [], relV _⟩, ⟨[4, 5], false, [], relV _⟩, ⟨[3, 6], true, [], relV _⟩] [38, 39, 40, 41, 42, 43, 44, 45] 8 (HRk [[(some b12, .cells (arr (intC .i64) xs14 ([])).toArray 3 (0, 0))], [(some b12, .cells (arr (intC .i64) (xs14.take n16.toNat ++ cpy (xs14.drop n16.toNat) (xs14.take n16.toNat)) ([])).toArray 3 (0, 0))]]) [[], []] [(some b12, .cells (arr (intC .i64) xs14 ([])).toArray 3 (0, 0))] []
            · exact mixed
            · exact rfl
            · kernel_rfl
            · kernel_rfl
            · kernel_rfl
            · exact rfl
            · exact rfl
            · exact rfl
            · exact rfl
            · exact (by repeat (first | exact Pick.refl _ | exact Pick.nil | apply Pick.none | refine Pick.cons (by repeat (first | exact Take.head _ _ | apply Take.tail)) ?_))
            · refine ⟨?_, ?_, ?_, ?_, ?_, ?_, ?_, ?_, trivial⟩
              · rintro vs es Es Hx -
                refine TO.reenv (D := []) rfl ?_
                refine TO.move rfl rfl rfl rfl ?_
                refine TO.done ?_; exact X.obQ rfl ⟨rfl, rfl⟩ (Pick.refl _) rfl
              · rintro vs es Es Hx -
                refine TO.reenv (D := []) rfl ?_
                refine TO.move rfl rfl rfl rfl ?_
                refine TO.done ?_; exact X.obQ rfl ⟨rfl, rfl⟩ (Pick.refl _) rfl
              · rintro vs es Es Hx -
                refine TO.reenv (D := []) rfl ?_
                refine TO.move rfl rfl rfl rfl ?_
                refine TO.done ?_; exact X.obQ rfl ⟨rfl, rfl⟩ (Pick.refl _) rfl
              · rintro vs es Es Hx ⟨⟨h_1, e_1⟩, ⟨h_2, e_2⟩, -⟩
                refine TO.reenv (D := [(39, vs 1), (40, vs 2)]) rfl ?_; rw [h_1, h_2]
                refine TO.slL (xs := xs14) hn15 g18 rfl rfl rfl rfl rfl TWLCsrRows.l30 TWLCsrRows.n3 ?_
                refine TO.done ?_; exact X.obQ rfl ⟨rfl, rfl⟩ (Pick.refl _) (by show [(39, vs 1), (40, vs 2)] = _; rw [h_1, h_2])
              · rintro vs es Es Hx -
                refine TO.reenv (D := []) rfl ?_
                refine TO.move rfl rfl rfl rfl ?_
                refine TO.done ?_; exact X.obQ rfl ⟨rfl, rfl⟩ (Pick.refl _) rfl
              · rintro vs es Es Hx -
                refine TO.reenv (D := []) rfl ?_
                refine TO.move rfl rfl rfl rfl ?_
                refine TO.done ?_; exact X.obQ rfl ⟨rfl, rfl⟩ (Pick.refl _) rfl
              · rintro vs es Es Hx ⟨⟨h_4, e_4⟩, ⟨h_5, e_5⟩, -⟩
                refine TO.reenv (D := [(42, vs 4), (43, vs 5)]) rfl ?_; rw [h_4, h_5]
                refine TO.slH (xs := xs14) hn15 (Nat.le_refl _) g19 rfl rfl rfl rfl rfl TWLCsrRows.l30 TWLCsrRows.n3 ?_
                refine TO.done ?_; exact X.obQ rfl ⟨rfl, rfl⟩ (Pick.refl _) (by show [(42, vs 4), (43, vs 5)] = _; rw [h_4, h_5])
              · rintro vs es Es Hx hb ⟨⟨h_3, e_3⟩, ⟨h_6, e_6⟩, -⟩ hHR
                obtain rfl : hb = [(some b12, .cells (arr (intC .i64) xs14 ([])).toArray 3 (0, 0))] := hHR
                refine TO.reenv (D := [(41, vs 3), (44, vs 6)]) rfl ?_; rw [h_3, h_6]
                refine TO.copyV (f := (intC .i64)) (s := 1) (xs := xs14) (b := b12) (o := n16.toNat) (j := ([])) (ys := (xs14.take n16.toNat)) (fun _ => rfl) (fun _ => rfl) (by have := g18; omega) hn15 (Nat.le_refl _) rfl rfl rfl rfl rfl TWLCsrRows.l30 TWLCsrRows.n3 (Take.head _ _) (fun wc hwc => (RS.take (hwc.rs (f := (intC .i64)) (s := 1) (xs := xs14) (j := ([])) (fun _ => rfl) (List.Mem.head _) hn15 (Nat.le_refl _) someZ) g19)) ?_
                refine TO.done ?_; exact X.obEd (hb' := [(some b12, .cells (arr (intC .i64) (xs14.take n16.toNat ++ cpy (xs14.drop n16.toNat) (xs14.take n16.toNat)) ([])).toArray 3 (0, 0))]) rfl ⟨rfl, rfl⟩ rfl (by repeat (first | exact Pick.refl _ | exact Pick.nil | apply Pick.none | refine Pick.cons (by repeat (first | exact Take.head _ _ | apply Take.tail)) ?_)) (by show [(41, vs 3), (44, vs 6)] = _; rw [h_3, h_6])
            · rintro vs es hb ⟨⟨h_0, e_0⟩, ⟨h_1, e_1⟩, ⟨h_2, e_2⟩, ⟨h_3, e_3⟩, ⟨h_4, e_4⟩, ⟨h_5, e_5⟩, ⟨h_6, e_6⟩, ⟨h_7, e_7⟩, -⟩ hHR
              obtain rfl : hb = [(some b12, .cells (arr (intC .i64) (xs14.take n16.toNat ++ cpy (xs14.drop n16.toNat) (xs14.take n16.toNat)) ([])).toArray 3 (0, 0))] := hHR
              refine TO.reenv (D := [(38, vs 0), (39, vs 1), (40, vs 2), (41, vs 3), (42, vs 4), (43, vs 5), (44, vs 6), (45, vs 7)]) rfl ?_
              refine TO.reheap (H := [(some b12, .cells (arr (intC .i64) (xs14.take n16.toNat ++ cpy (xs14.drop n16.toNat) (xs14.take n16.toNat)) ([])).toArray 3 (0, 0))]) (by show _ ++ (_ ++ (es 0 ++ (es 1 ++ (es 2 ++ (es 3 ++ (es 4 ++ (es 5 ++ (es 6 ++ (es 7 ++ ([])))))))))) = _; rw [e_0, e_1, e_2, e_3, e_4, e_5, e_6, e_7]; rfl) ?_
              rw [h_0, h_1, h_2, h_3, h_4, h_5, h_6, h_7]
              clear h_7 h_6 h_5 h_4 h_3 h_2 h_1 h_0 e_0 e_1 e_2 e_3 e_4 e_5 e_6 e_7
              refine TO.addG g20 rfl rfl rfl rfl rfl ?_
              refine TO.assign rfl rfl rfl rfl ?_
              refine TO.done ?_
              refine X.block_normal ?_
              have H := loop_next H C_2
              exact X.againE3 n_2 (xs14.take n16.toNat ++ cpy (xs14.drop n16.toNat) (xs14.take n16.toNat)) (n16 + ((min (xs14.drop n16.toNat).length (xs14.take n16.toNat).length : Nat) : Int)) ⟨H, (cpyV_len hn15 g18)⟩ (Nat.lt_succ_self _) (AllF.cons rfl (AllF.cons rfl AllF.nil)) (Pick.cons (Take.head _ _) Pick.nil)
          ·
            refine T.condPF rfl g17 ?_
            refine T.exit ?_
            refine X.then_exit ?_
            have H := loop_exitE H C_2 ▸ K_2
            refine X.then_exit ?_
            refine X.block_here ?_
            exact X.metE1 xs14 ⟨H, hn15⟩ (AllF.cons rfl AllF.nil) (Pick.cons (Take.head _ _) Pick.nil)
        · rintro xs21 ⟨H, hn22⟩
          unfold m_slices_Repeat_int_j3 at H
          refine T.seq ?_
          refine T.regionL (ll := [0, 1]) rfl ?_
          refine TO.move rfl rfl rfl rfl ?_
          refine TO.assign rfl rfl rfl rfl ?_
          refine TO.done ?_
          refine X.seq_normal ?_
          refine T.ret ?_
          obtain rfl := ret1 H
          exact X.ret1 rfl rfl rfl rfl (Res.tmp rfl) (Pick.cons (Take.head _ _) Pick.nil) ⟨(some b12), r5.toNat, r5.toNat, ([]), rfl, rfl, hn22, (Nat.le_refl _), (zeroJ _ _), someZ⟩
/-- acequia/csr.Forward -/
theorem w_csr_Forward {c0 : Csr} {arcs1 : Int} {c0_First_b : Option Addr} {c0_First_n : Nat} {c0_First_c : Nat} {c0_Head_b : Option Addr} {c0_Head_n : Nat} {c0_Head_c : Nat} {c0_Rev_b : Option Addr} {c0_Rev_n : Nat} {c0_Rev_c : Nat} {c0_Cap_b : Option Addr} {c0_Cap_n : Nat} {c0_Cap_c : Nat} {c0_Arc_b : Option Addr} {c0_Arc_n : Nat} {c0_Arc_c : Nat} {c0_Back_b : Option Addr} {c0_Back_n : Nat} {c0_Back_c : Nat} (w : World) (h_c0_First : RS w [] (intC .i64) 1 c0_First_b c0_First_n c0_First_c c0.First) (h_c0_Head : RS w [] (intC .i64) 1 c0_Head_b c0_Head_n c0_Head_c c0.Head) (h_c0_Rev : RS w [] (intC .i64) 1 c0_Rev_b c0_Rev_n c0_Rev_c c0.Rev) (h_c0_Cap : RS w [] (intC .i64) 1 c0_Cap_b c0_Cap_n c0_Cap_c c0.Cap) (h_c0_Arc : RS w [] (intC .i64) 1 c0_Arc_b c0_Arc_n c0_Arc_c c0.Arc) (h_c0_Back : RS w [] boolC 1 c0_Back_b c0_Back_n c0_Back_c c0.Back) {r0 : List Int} (H : m_csr_Forward c0 arcs1 = some r0) : Fnc Try.prog 38 #[.agg #[.int .i64 c0.N, .int .i64 c0.S, .int .i64 c0.T, .slice c0_First_b c0_First_n c0_First_c, .slice c0_Head_b c0_Head_n c0_Head_c, .slice c0_Rev_b c0_Rev_n c0_Rev_c, .slice c0_Cap_b c0_Cap_n c0_Cap_c, .slice c0_Arc_b c0_Arc_n c0_Arc_c, .slice c0_Back_b c0_Back_n c0_Back_c], .int .i64 arcs1] w [] (fun v N => ∃ (ob_0 : Option Nat) (n_0 : Nat) (c_0 : Nat) (j_0 : List Value), v = .slice (sb ob_0) n_0 c_0 ∧ N = [(ob_0, .cells (arr (intC .i64) r0 j_0).toArray 3 (0, 0))] ∧ r0.length = n_0 ∧ n_0 ≤ c_0 ∧ j_0.length = (c_0 - n_0) * 1 ∧ (ob_0 = none → c_0 = 0)) := by
  unfold m_csr_Forward at H
  refine Fnc.enter (vs := [.agg #[.int .i64 c0.N, .int .i64 c0.S, .int .i64 c0.T, .slice c0_First_b c0_First_n c0_First_c, .slice c0_Head_b c0_Head_n c0_Head_c, .slice c0_Rev_b c0_Rev_n c0_Rev_c, .slice c0_Cap_b c0_Cap_n c0_Cap_c, .slice c0_Arc_b c0_Arc_n c0_Arc_c, .slice c0_Back_b c0_Back_n c0_Back_c], .int .i64 arcs1]) Try.func38 rfl rfl (Inv.refl w) ?_
  refine T.seq ?_
  refine T.regionL (ll := [0, 1]) rfl ?_
  refine TO.boxA rfl rfl rfl rfl ?_; intro b1
  refine TO.assign rfl rfl rfl rfl ?_
  refine TO.done ?_
  refine X.seq_normal ?_
  refine T.seq ?_
  refine T.seq ?_
  rcases ite_some H with ⟨g3, H⟩ | ⟨g3, H⟩
  ·
    refine T.regionL (ll := [0, 1, 2, 3, 4, 5]) rfl ?_
    refine TO.move rfl rfl rfl rfl ?_
    refine TO.bin rfl rfl rfl rfl rfl rfl ?_
    refine TO.move rfl rfl rfl rfl ?_
    refine TO.decB (t := 10) (b' := true) rfl (decide_eq_true g3) ?_
    refine TO.shut rfl rfl rfl rfl ?_
    refine TO.shut rfl rfl rfl rfl ?_
    refine TO.pickT rfl rfl rfl rfl rfl ?_
    refine TO.done ?_
    refine X.seq_normal ?_
    refine T.condT rfl rfl ?_
    refine T.seq ?_
    refine T.regionL (ll := [0]) rfl ?_
    refine TO.assign rfl rfl rfl rfl ?_
    refine TO.done ?_
    refine X.seq_normal ?_
    refine T.trim (AllF.cons (t := 4) rfl AllF.nil) ?_
    refine T.ret ?_
    refine X.then_ret ?_
    obtain rfl := ret1 H
    exact X.ret1 rfl rfl rfl rfl (Res.tmp rfl) (Pick.none Pick.nil) ⟨none, 0, 0, ([]), rfl, rfl, rfl, (Nat.le_refl _), (zeroJ 0 _), (fun _ => rfl)⟩
  ·
    refine T.regionL (ll := [0, 1, 2, 3, 4, 5]) rfl ?_
    refine TO.move rfl rfl rfl rfl ?_
    refine TO.bin rfl rfl rfl rfl rfl rfl ?_
    refine TO.move rfl rfl rfl rfl ?_
    refine TO.decB (t := 10) (b' := false) rfl (decide_eq_false g3) ?_
    refine TO.move rfl rfl rfl rfl ?_
    refine TO.bin rfl rfl rfl rfl rfl rfl ?_
    refine TO.pickF rfl rfl rfl rfl rfl ?_
    refine TO.done ?_
    refine X.seq_normal ?_
    rcases ite_some H with ⟨g4, H⟩ | ⟨g4, H⟩
    ·
      refine T.condPT rfl g4 ?_
      refine T.seq ?_
      refine T.regionL (ll := [0]) rfl ?_
      refine TO.assign rfl rfl rfl rfl ?_
      refine TO.done ?_
      refine X.seq_normal ?_
      refine T.trim (AllF.cons (t := 4) rfl AllF.nil) ?_
      refine T.ret ?_
      refine X.then_ret ?_
      obtain rfl := ret1 H
      exact X.ret1 rfl rfl rfl rfl (Res.tmp rfl) (Pick.none Pick.nil) ⟨none, 0, 0, ([]), rfl, rfl, rfl, (Nat.le_refl _), (zeroJ 0 _), (fun _ => rfl)⟩
    ·
      refine T.condPF rfl g4 ?_
      refine T.skip ?_
      refine X.seq_normal ?_
      refine T.trim (AllF.cons (t := 1) rfl (AllF.cons (t := 2) rfl AllF.nil)) ?_
      refine T.seq ?_
      obtain ⟨r7, e8, H⟩ := bd_some H
      refine T.regionL (ll := [0, 1, 2, 3]) rfl ?_
      refine TO.buildSliceS [.int .i64 0] [0] rfl rfl rfl rfl TWLCsrRows.l30 TWLCsrRows.n3 TWLCsrRows.z3 rfl rfl (by simp only [setAll, setCells, Value.cells, List.toList_toArray, List.getD_cons_zero, List.getD_cons_succ, List.set_cons_zero, List.set_cons_succ]; rfl) (by kernel_rfl) ?_; intro b5
      refine TO.move rfl rfl rfl rfl ?_
      refine TO.callX TWLCsrRows.c66 rfl rfl rfl rfl (fun wc hwc => w_slices_Repeat_int (x0 := [(-1)]) (count1 := arcs1) wc (hwc.rs (f := (intC .i64)) (s := 1) (xs := [(-1)]) (j := ([])) (fun _ => rfl) (List.Mem.head _) rfl (Nat.le_refl _) someZ) e8) ?_
      rintro _ _ ⟨ob9, n10, c11, j12, rfl, rfl, hn13, hc14, hj15, hz16⟩
      refine TO.assign rfl rfl rfl rfl ?_
      refine TO.done ?_
      refine X.seq_normal ?_
      refine T.seq ?_
      refine T.seq ?_
      obtain ⟨r18, e19, H⟩ := bd_some H
      refine T.regionL (ll := [0, 1, 2]) rfl ?_
      refine TO.loadA rfl rfl rfl rfl TWLCsrRows.a33 (List.Mem.tail _ (List.Mem.tail _ (List.Mem.head _))) rfl ?_
      refine TO.callX TWLCsrRows.c22 rfl rfl rfl rfl (fun wc hwc => w_csr_Len (c0 := c0) wc (h_c0_First.mono hwc) (h_c0_Head.mono hwc) (h_c0_Rev.mono hwc) (h_c0_Cap.mono hwc) (h_c0_Arc.mono hwc) (h_c0_Back.mono hwc) e19) ?_
      rintro _ _ ⟨rfl, rfl⟩
      refine TO.move rfl rfl rfl rfl ?_
      refine TO.done ?_
      refine X.seq_normal ?_
      refine T.meetSE1 (fun (xs32 : List Int) => m_csr_Forward_j3 xs32 = some r0 ∧ xs32.length = n10) (fun (xs32 : List Int) => [(5, .slice (sb ob9) n10 c11)]) (fun (xs32 : List Int) => [(ob9, .cells (arr (intC .i64) xs32 j12).toArray 3 (0, 0))]) ?_ ?_
      ·
        refine T.block ?_
        obtain ⟨o_1, e_1, K_1⟩ := bd_some H
        refine T.loopE3 (fun (m_1 : Nat) (xs20 : List Int) (x22 : Int) => loopM (fun s => m_csr_Forward_s1 c0 arcs1 r18 s.1 s.2) m_1 (xs20, x22) = some o_1 ∧ xs20.length = n10) (fun (m_1 : Nat) (xs20 : List Int) (x22 : Int) => [(1, .int .i64 arcs1), (2, .pointer (some ⟨b1, 0, none⟩)), (5, .slice (sb ob9) n10 c11), (18, .int .i64 r18), (19, .int .i64 x22)]) (fun (m_1 : Nat) (xs20 : List Int) (x22 : Int) => [(some b1, .cells #[.int .i64 c0.N, .int .i64 c0.S, .int .i64 c0.T, .slice c0_First_b c0_First_n c0_First_c, .slice c0_Head_b c0_Head_n c0_Head_c, .slice c0_Rev_b c0_Rev_n c0_Rev_c, .slice c0_Cap_b c0_Cap_n c0_Cap_c, .slice c0_Arc_b c0_Arc_n c0_Arc_c, .slice c0_Back_b c0_Back_n c0_Back_c] 33 (0, 0)), (ob9, .cells (arr (intC .i64) xs20 j12).toArray 3 (0, 0))]) (fun (m_1 : Nat) (xs20 : List Int) (x22 : Int) => m_1) FUEL r7 0 ⟨e_1, hn13⟩ (AllF.cons rfl (AllF.cons rfl (AllF.cons rfl (AllF.cons rfl (AllF.cons rfl AllF.nil))))) (Pick.cons (Take.tail (Take.tail (Take.head _ _))) (Pick.cons (Take.head _ _) Pick.nil)) ?_
        rintro m_1 xs20 x22 ⟨H, hn21⟩
        obtain ⟨n_1, r_1, rfl, H, C_1⟩ := loopM_some H
        have H : m_csr_Forward_s1 c0 arcs1 r18 xs20 x22 = some r_1 := H
        unfold m_csr_Forward_s1 at H
        refine T.seq ?_
        refine T.regionL (ll := [0]) rfl ?_
        refine TO.bin rfl rfl rfl rfl rfl rfl ?_
        refine TO.done ?_
        refine X.seq_normal ?_
        refine T.seq ?_
        rcases ite_some H with ⟨g23, H⟩ | ⟨g23, H⟩
        ·
          refine T.condPT rfl g23 ?_
          refine T.skip ?_
          refine X.seq_normal ?_
          refine T.seq ?_
          refine T.block ?_
          refine T.seq ?_
          refine T.regionL (ll := [0, 1]) rfl ?_
          refine TO.move rfl rfl rfl rfl ?_
          refine TO.assign rfl rfl rfl rfl ?_
          refine TO.done ?_
          refine X.seq_normal ?_
          refine T.seq ?_
          obtain ⟨g24, H⟩ := gd_some H
          refine T.regionL (ll := [0, 1, 2, 3, 4, 5]) rfl ?_
          refine TO.fieldAddr0 rfl rfl rfl rfl TWLCsrRows.f33_7 ?_
          refine TO.load1 rfl rfl rfl rfl TWLCsrRows.s30 (List.Mem.head _) rfl ?_
          refine TO.move rfl rfl rfl rfl ?_
          refine TO.ixR h_c0_Arc g24 rfl rfl rfl rfl rfl TWLCsrRows.l30 TWLCsrRows.n3 ?_
          refine TO.ldIR h_c0_Arc g24 rfl rfl rfl rfl TWLCsrRows.s3 ?_
          refine TO.assign rfl rfl rfl rfl ?_
          refine TO.done ?_
          refine X.seq_normal ?_
          refine T.seq ?_
          refine T.meetSE1 (fun (x27 : Bool) => m_csr_Forward_j2 c0 xs20 x22 x27 = some r_1) (fun (x27 : Bool) => [(1, .int .i64 arcs1), (2, .pointer (some ⟨b1, 0, none⟩)), (5, .slice (sb ob9) n10 c11), (6, .int .i64 x22), (7, .int .i64 (c0.Arc.getD x22.toNat 0)), (18, .int .i64 r18), (19, .int .i64 x22), (37, .bool x27)]) (fun (x27 : Bool) => [(some b1, .cells #[.int .i64 c0.N, .int .i64 c0.S, .int .i64 c0.T, .slice c0_First_b c0_First_n c0_First_c, .slice c0_Head_b c0_Head_n c0_Head_c, .slice c0_Rev_b c0_Rev_n c0_Rev_c, .slice c0_Cap_b c0_Cap_n c0_Cap_c, .slice c0_Arc_b c0_Arc_n c0_Arc_c, .slice c0_Back_b c0_Back_n c0_Back_c] 33 (0, 0)), (ob9, .cells (arr (intC .i64) xs20 j12).toArray 3 (0, 0))]) ?_ ?_
          ·
            obtain ⟨g25, H⟩ := gd_some H
            rcases ite_some H with ⟨g26, H⟩ | ⟨g26, H⟩
            ·
              refine T.regionL (ll := [0, 1, 2, 3, 4, 5, 6, 7, 8, 9, 10]) rfl ?_
              refine TO.fieldAddr0 rfl rfl rfl rfl TWLCsrRows.f33_8 ?_
              refine TO.load1 rfl rfl rfl rfl TWLCsrRows.s31 (List.Mem.head _) rfl ?_
              refine TO.move rfl rfl rfl rfl ?_
              refine TO.ixR h_c0_Back g25 rfl rfl rfl rfl rfl TWLCsrRows.l31 TWLCsrRows.n4 ?_
              refine TO.ldBR h_c0_Back g25 rfl rfl rfl rfl TWLCsrRows.s4 ?_
              refine TO.not rfl rfl rfl rfl ?_
              refine TO.move rfl rfl rfl rfl ?_
              refine TO.decB (t := 33) (b' := true) rfl g26 ?_
              refine TO.move rfl rfl rfl rfl ?_
              refine TO.move rfl rfl rfl rfl ?_
              refine TO.bin rfl rfl rfl rfl rfl rfl ?_
              refine TO.pickT rfl rfl rfl rfl rfl ?_
              refine TO.done ?_
              exact X.metE1 (decide ((c0.Arc.getD x22.toNat 0) < arcs1)) H (AllF.cons rfl (AllF.cons rfl (AllF.cons rfl (AllF.cons rfl (AllF.cons rfl (AllF.cons rfl (AllF.cons rfl (AllF.cons rfl AllF.nil)))))))) (Pick.cons (Take.head _ _) (Pick.cons (Take.head _ _) Pick.nil))
            ·
              refine T.regionL (ll := [0, 1, 2, 3, 4, 5, 6, 7, 8, 9, 10]) rfl ?_
              refine TO.fieldAddr0 rfl rfl rfl rfl TWLCsrRows.f33_8 ?_
              refine TO.load1 rfl rfl rfl rfl TWLCsrRows.s31 (List.Mem.head _) rfl ?_
              refine TO.move rfl rfl rfl rfl ?_
              refine TO.ixR h_c0_Back g25 rfl rfl rfl rfl rfl TWLCsrRows.l31 TWLCsrRows.n4 ?_
              refine TO.ldBR h_c0_Back g25 rfl rfl rfl rfl TWLCsrRows.s4 ?_
              refine TO.not rfl rfl rfl rfl ?_
              refine TO.move rfl rfl rfl rfl ?_
              refine TO.decB (t := 33) (b' := false) rfl (Bool.eq_false_iff.2 g26) ?_
              refine TO.shut rfl rfl rfl rfl ?_
              refine TO.shut rfl rfl rfl rfl ?_
              refine TO.shut rfl rfl rfl rfl ?_
              refine TO.pickF rfl rfl rfl rfl rfl ?_
              refine TO.done ?_
              exact X.metE1 false H (AllF.cons rfl (AllF.cons rfl (AllF.cons rfl (AllF.cons rfl (AllF.cons rfl (AllF.cons rfl (AllF.cons rfl (AllF.cons rfl AllF.nil)))))))) (Pick.cons (Take.head _ _) (Pick.cons (Take.head _ _) Pick.nil))
          · rintro x27 H
            unfold m_csr_Forward_j2 at H
            rcases ite_some H with ⟨g28, H⟩ | ⟨g28, H⟩
            ·
              refine T.condT rfl g28 ?_
              obtain ⟨g29, H⟩ := gd_some H
              refine T.regionL (ll := [0, 1, 2, 3, 4]) rfl ?_
              refine TO.move rfl rfl rfl rfl ?_
              refine TO.move rfl rfl rfl rfl ?_
              refine TO.move rfl rfl rfl rfl ?_
              refine TO.ixV hz16 hc14 hn21 g29 rfl rfl rfl rfl rfl TWLCsrRows.l30 TWLCsrRows.n3 ?_
              refine TO.stIV hz16 hc14 hn21 g29 rfl rfl rfl rfl (Take.tail (Take.head _ _)) TWLCsrRows.n3 ?_
              refine TO.done ?_
              refine X.block_normal ?_
              refine X.seq_normal ?_
              obtain ⟨g30, H⟩ := gd_some H
              refine T.regionL (ll := [0, 1]) rfl ?_
              refine TO.addG g30 rfl rfl rfl rfl rfl ?_
              refine TO.move rfl rfl rfl rfl ?_
              refine TO.done ?_
              have H := loop_next H C_1
              exact X.againE3 n_1 (xs20.set (c0.Arc.getD x22.toNat 0).toNat x22) (x22 + 1) ⟨H, (List.length_set.trans hn21)⟩ (Nat.lt_succ_self _) (AllF.cons rfl (AllF.cons rfl (AllF.cons rfl (AllF.cons rfl (AllF.cons rfl AllF.nil))))) (Pick.cons (Take.tail (Take.head _ _)) (Pick.cons (Take.head _ _) Pick.nil))
            ·
              refine T.condF rfl (Bool.eq_false_iff.2 g28) ?_
              refine T.skip ?_
              refine X.block_normal ?_
              refine X.seq_normal ?_
              obtain ⟨g31, H⟩ := gd_some H
              refine T.regionL (ll := [0, 1]) rfl ?_
              refine TO.addG g31 rfl rfl rfl rfl rfl ?_
              refine TO.move rfl rfl rfl rfl ?_
              refine TO.done ?_
              have H := loop_next H C_1
              exact X.againE3 n_1 xs20 (x22 + 1) ⟨H, hn21⟩ (Nat.lt_succ_self _) (AllF.cons rfl (AllF.cons rfl (AllF.cons rfl (AllF.cons rfl (AllF.cons rfl AllF.nil))))) (Pick.cons (Take.head _ _) (Pick.cons (Take.head _ _) Pick.nil))
        ·
          refine T.condPF rfl g23 ?_
          refine T.exit ?_
          refine X.then_exit ?_
          have H := loop_exitE H C_1 ▸ K_1
          refine X.then_exit ?_
          refine X.block_here ?_
          exact X.metE1 xs20 ⟨H, hn21⟩ (AllF.cons rfl AllF.nil) (Pick.cons (Take.tail (Take.head _ _)) Pick.nil)
      · rintro xs32 ⟨H, hn33⟩
        unfold m_csr_Forward_j3 at H
        refine T.seq ?_
        refine T.regionL (ll := [0, 1]) rfl ?_
        refine TO.move rfl rfl rfl rfl ?_
        refine TO.assign rfl rfl rfl rfl ?_
        refine TO.done ?_
        refine X.seq_normal ?_
        refine T.ret ?_
        obtain rfl := ret1 H
        exact X.ret1 rfl rfl rfl rfl (Res.tmp rfl) (Pick.cons (Take.head _ _) Pick.nil) ⟨ob9, n10, c11, j12, rfl, rfl, hn33, hc14, hj15, hz16⟩
/-- acequia/acequialaw02.CsrRows -/
theorem w_acequialaw02_CsrRows {n0 : Net} {n0_Arcs_b : Option Addr} {n0_Arcs_n : Nat} {n0_Arcs_c : Nat} (w : World) (h_n0_Arcs : RS w [] arcC 3 n0_Arcs_b n0_Arcs_n n0_Arcs_c n0.Arcs) {r0 : Bool} (H : m_acequialaw02_CsrRows n0 = some r0) : Fnc Try.prog 11 #[.agg #[.int .i64 n0.N, .int .i64 n0.S, .int .i64 n0.T, .slice n0_Arcs_b n0_Arcs_n n0_Arcs_c]] w [] (fun v N => v = .bool r0 ∧ N = []) := by
  unfold m_acequialaw02_CsrRows at H
  refine Fnc.enter (vs := [.agg #[.int .i64 n0.N, .int .i64 n0.S, .int .i64 n0.T, .slice n0_Arcs_b n0_Arcs_n n0_Arcs_c]]) Try.func11 rfl rfl (Inv.refl w) ?_
  refine T.seq ?_
  refine T.regionL (ll := [0, 1]) rfl ?_
  refine TO.boxA rfl rfl rfl rfl ?_; intro b1
  refine TO.assign rfl rfl rfl rfl ?_
  refine TO.done ?_
  refine X.seq_normal ?_
  refine T.seq ?_
  obtain ⟨r3, e4, H⟩ := bd_some H
  refine T.regionL (ll := [0, 1, 2]) rfl ?_
  refine TO.loadA rfl rfl rfl rfl TWLCsrRows.a24 (List.Mem.head _) rfl ?_
  refine TO.callX TWLCsrRows.c17 rfl rfl rfl rfl (fun wc hwc => w_acequialow_Some (n0 := n0) (verts1 := 40) (arcs2 := 80) wc (h_n0_Arcs.mono hwc) e4) ?_
  rintro _ _ ⟨ob5, n6, c7, j8, rfl, rfl, hn9, hc10, hj11, hz12⟩
  refine TO.storeA rfl rfl rfl rfl (Take.tail (Take.head _ _)) TWLCsrRows.n24 rfl rfl rfl ?_
  refine TO.done ?_
  refine X.seq_normal ?_
  refine T.seq ?_
  obtain ⟨⟨r14, r15⟩, e16, H⟩ := bd_some H
  refine T.regionL (ll := [0, 1, 2, 3, 4, 5, 6, 7]) rfl ?_
  refine TO.loadA rfl rfl rfl rfl TWLCsrRows.a24 (List.Mem.head _) rfl ?_
  refine TO.callX TWLCsrRows.c19 rfl rfl rfl rfl (fun wc hwc => w_csr_Make (n0 := r3) wc (hwc.rs (f := arcC) (s := 3) (xs := r3.Arcs) (j := j8) (fun _ => rfl) (List.Mem.tail _ (List.Mem.head _)) hn9 hc10 hz12) e16) ?_
  rintro _ _ ⟨ob17, n18, c19, j20, ob21, n22, c23, j24, ob25, n26, c27, j28, ob29, n30, c31, j32, ob33, n34, c35, j36, ob37, n38, c39, j40, rfl, rfl, hn41, hc42, hj43, hz44, hn45, hc46, hj47, hz48, hn49, hc50, hj51, hz52, hn53, hc54, hj55, hz56, hn57, hc58, hj59, hz60, hn61, hc62, hj63, hz64⟩
  refine TO.move rfl rfl rfl rfl ?_
  refine TO.extract rfl rfl rfl rfl rfl ?_
  refine TO.extract rfl rfl rfl rfl rfl ?_
  refine TO.allocA rfl rfl rfl TWLCsrRows.z33 ?_; intro b71
  refine TO.storeA rfl rfl rfl rfl (Take.head _ _) TWLCsrRows.n33 rfl rfl rfl ?_
  refine TO.assign rfl rfl rfl rfl ?_
  refine TO.done ?_
  refine X.seq_normal ?_
  refine T.trim (AllF.cons (t := 1) rfl (AllF.cons (t := 3) rfl (AllF.cons (t := 4) rfl AllF.nil))) ?_
  refine T.seq ?_
  refine T.seq ?_
  rcases ite_some H with ⟨g73, H⟩ | ⟨g73, H⟩
  ·
    apply T.drawQT [(21, _), (22, _), (23, _), (24, _), (25, _), (26, _), (27, _), (28, _), (29, _), (30, _), (31, _), (32, _), (33, _), (34, _), (35, _), (36, _), (37, _), (38, _), (39, _), (40, _), (41, _), (42, _), (43, _), (44, _), (45, _), (46, _), (47, _)]
    · exact mixed
    · kernel_rfl
    · kernel_rfl
    · exact rfl
    · exact rfl
    · refine ⟨?_, ?_, ?_, ?_, ?_, ?_, ?_, ?_, ?_, ?_, ?_, ?_, ?_, ?_, ?_, ?_, ?_, ?_, ?_, ?_, ?_, ?_, ?_, ?_, ?_, ?_, ?_, trivial⟩
      · intro Es
        refine TO.move rfl rfl rfl rfl ?_
        exact TO.done (X.ob rfl (Pick.refl _))
      · intro Es
        refine TO.bin rfl rfl rfl rfl rfl rfl ?_
        exact TO.done (X.ob rfl (Pick.refl _))
      · intro Es
        refine TO.move rfl rfl rfl rfl ?_
        refine TO.decB (t := 23) (b' := true) rfl (decide_eq_true g73) ?_
        exact TO.done (X.ob2 rfl (Pick.refl _))
      · intro Es
        refine TO.shut rfl rfl rfl rfl ?_
        exact TO.done (X.ob rfl (Pick.refl _))
      · intro Es
        refine TO.shut rfl rfl rfl rfl ?_
        exact TO.done (X.ob rfl (Pick.refl _))
      · intro Es
        refine TO.shut rfl rfl rfl rfl ?_
        exact TO.done (X.ob rfl (Pick.refl _))
      · intro Es
        refine TO.shut rfl rfl rfl rfl ?_
        exact TO.done (X.ob rfl (Pick.refl _))
      · intro Es
        refine TO.shut rfl rfl rfl rfl ?_
        exact TO.done (X.ob rfl (Pick.refl _))
      · intro Es
        refine TO.shut rfl rfl rfl rfl ?_
        exact TO.done (X.ob rfl (Pick.refl _))
      · intro Es
        refine TO.shut rfl rfl rfl rfl ?_
        exact TO.done (X.ob rfl (Pick.refl _))
      · intro Es
        refine TO.pickT rfl rfl rfl rfl rfl ?_
        exact TO.done (X.ob rfl (Pick.refl _))
      · intro Es
        refine TO.move rfl rfl rfl rfl ?_
        exact TO.done (X.ob rfl (Pick.refl _))
      · intro Es
        refine TO.shut rfl rfl rfl rfl ?_
        exact TO.done (X.ob rfl (Pick.refl _))
      · intro Es
        refine TO.shut rfl rfl rfl rfl ?_
        exact TO.done (X.ob rfl (Pick.refl _))
      · intro Es
        refine TO.shut rfl rfl rfl rfl ?_
        exact TO.done (X.ob rfl (Pick.refl _))
      · intro Es
        refine TO.shut rfl rfl rfl rfl ?_
        exact TO.done (X.ob rfl (Pick.refl _))
      · intro Es
        refine TO.shut rfl rfl rfl rfl ?_
        exact TO.done (X.ob rfl (Pick.refl _))
      · intro Es
        refine TO.pickT rfl rfl rfl rfl rfl ?_
        exact TO.done (X.ob rfl (Pick.refl _))
      · intro Es
        refine TO.move rfl rfl rfl rfl ?_
        exact TO.done (X.ob rfl (Pick.refl _))
      · intro Es
        refine TO.shut rfl rfl rfl rfl ?_
        exact TO.done (X.ob rfl (Pick.refl _))
      · intro Es
        refine TO.shut rfl rfl rfl rfl ?_
        exact TO.done (X.ob rfl (Pick.refl _))
      · intro Es
        refine TO.shut rfl rfl rfl rfl ?_
        exact TO.done (X.ob rfl (Pick.refl _))
      · intro Es
        refine TO.shut rfl rfl rfl rfl ?_
        exact TO.done (X.ob rfl (Pick.refl _))
      · intro Es
        refine TO.shut rfl rfl rfl rfl ?_
        exact TO.done (X.ob rfl (Pick.refl _))
      · intro Es
        refine TO.shut rfl rfl rfl rfl ?_
        exact TO.done (X.ob rfl (Pick.refl _))
      · intro Es
        refine TO.shut rfl rfl rfl rfl ?_
        exact TO.done (X.ob rfl (Pick.refl _))
      · intro Es
        refine TO.shut rfl rfl rfl rfl ?_
        exact TO.done (X.ob rfl (Pick.refl _))
    refine TO.shut rfl rfl rfl rfl ?_
    refine TO.pickT rfl rfl rfl rfl rfl ?_
    refine TO.done ?_
    refine X.seq_normal ?_
    refine T.trim (AllF.cons (t := 1) rfl (AllF.cons (t := 3) rfl (AllF.cons (t := 49) rfl AllF.nil))) ?_
    refine T.condT rfl rfl ?_
    refine T.seq ?_
    refine T.regionL (ll := [0]) rfl ?_
    refine TO.assign rfl rfl rfl rfl ?_
    refine TO.done ?_
    refine X.seq_normal ?_
    refine T.ret ?_
    refine X.then_ret ?_
    obtain rfl := ret1 H
    exact X.ret1 rfl rfl rfl rfl (Res.tmp rfl) Pick.nil ⟨rfl, rfl⟩
  ·
    obtain ⟨g74, H⟩ := gd_some H
    rcases ite_some H with ⟨g75, H⟩ | ⟨g75, H⟩
    ·
      apply T.drawQT [(21, _), (22, _), (23, _), (24, _), (25, _), (26, _), (27, _), (28, _), (29, _), (30, _), (31, _), (32, _), (33, _), (34, _), (35, _), (36, _), (37, _), (38, _), (39, _), (40, _), (41, _), (42, _), (43, _), (44, _), (45, _), (46, _), (47, _)]
      · exact mixed
      · kernel_rfl
      · kernel_rfl
      · exact rfl
      · exact rfl
      · refine ⟨?_, ?_, ?_, ?_, ?_, ?_, ?_, ?_, ?_, ?_, ?_, ?_, ?_, ?_, ?_, ?_, ?_, ?_, ?_, ?_, ?_, ?_, ?_, ?_, ?_, ?_, ?_, trivial⟩
        · intro Es
          refine TO.move rfl rfl rfl rfl ?_
          exact TO.done (X.ob rfl (Pick.refl _))
        · intro Es
          refine TO.bin rfl rfl rfl rfl rfl rfl ?_
          exact TO.done (X.ob rfl (Pick.refl _))
        · intro Es
          refine TO.move rfl rfl rfl rfl ?_
          refine TO.decB (t := 23) (b' := false) rfl (decide_eq_false g73) ?_
          exact TO.done (X.ob2 rfl (Pick.refl _))
        · intro Es
          refine TO.fieldAddr0 rfl rfl rfl rfl TWLCsrRows.f33_3 ?_
          exact TO.done (X.ob rfl (Pick.refl _))
        · intro Es
          refine TO.load1 rfl rfl rfl rfl TWLCsrRows.s30 (List.Mem.head _) rfl ?_
          exact TO.done (X.ob rfl (Pick.refl _))
        · intro Es
          refine TO.lenX (xs := r14.First) hn41 rfl rfl rfl rfl rfl TWLCsrRows.l30 ?_
          exact TO.done (X.ob rfl (Pick.refl _))
        · intro Es
          refine TO.fieldAddr0 rfl rfl rfl rfl TWLCsrRows.f24_0 ?_
          exact TO.done (X.ob rfl (Pick.refl _))
        · intro Es
          refine TO.load1 rfl rfl rfl rfl TWLCsrRows.s3 (List.Mem.tail _ (List.Mem.tail _ (List.Mem.tail _ (List.Mem.tail _ (List.Mem.tail _ (List.Mem.tail _ (List.Mem.tail _ (List.Mem.head _)))))))) rfl ?_
          exact TO.done (X.ob rfl (Pick.refl _))
        · intro Es
          refine TO.addG g74 rfl rfl rfl rfl rfl ?_
          exact TO.done (X.ob rfl (Pick.refl _))
        · intro Es
          refine TO.bin rfl rfl rfl rfl rfl rfl ?_
          exact TO.done (X.ob rfl (Pick.refl _))
        · intro Es
          refine TO.pickF rfl rfl rfl rfl rfl ?_
          exact TO.done (X.ob rfl (Pick.refl _))
        · intro Es
          refine TO.move rfl rfl rfl rfl ?_
          refine TO.decB (t := 32) (b' := true) rfl (decide_eq_true g75) ?_
          exact TO.done (X.ob2 rfl (Pick.refl _))
        · intro Es
          refine TO.shut rfl rfl rfl rfl ?_
          exact TO.done (X.ob rfl (Pick.refl _))
        · intro Es
          refine TO.shut rfl rfl rfl rfl ?_
          exact TO.done (X.ob rfl (Pick.refl _))
        · intro Es
          refine TO.shut rfl rfl rfl rfl ?_
          exact TO.done (X.ob rfl (Pick.refl _))
        · intro Es
          refine TO.shut rfl rfl rfl rfl ?_
          exact TO.done (X.ob rfl (Pick.refl _))
        · intro Es
          refine TO.shut rfl rfl rfl rfl ?_
          exact TO.done (X.ob rfl (Pick.refl _))
        · intro Es
          refine TO.pickT rfl rfl rfl rfl rfl ?_
          exact TO.done (X.ob rfl (Pick.refl _))
        · intro Es
          refine TO.move rfl rfl rfl rfl ?_
          exact TO.done (X.ob rfl (Pick.refl _))
        · intro Es
          refine TO.shut rfl rfl rfl rfl ?_
          exact TO.done (X.ob rfl (Pick.refl _))
        · intro Es
          refine TO.shut rfl rfl rfl rfl ?_
          exact TO.done (X.ob rfl (Pick.refl _))
        · intro Es
          refine TO.shut rfl rfl rfl rfl ?_
          exact TO.done (X.ob rfl (Pick.refl _))
        · intro Es
          refine TO.shut rfl rfl rfl rfl ?_
          exact TO.done (X.ob rfl (Pick.refl _))
        · intro Es
          refine TO.shut rfl rfl rfl rfl ?_
          exact TO.done (X.ob rfl (Pick.refl _))
        · intro Es
          refine TO.shut rfl rfl rfl rfl ?_
          exact TO.done (X.ob rfl (Pick.refl _))
        · intro Es
          refine TO.shut rfl rfl rfl rfl ?_
          exact TO.done (X.ob rfl (Pick.refl _))
        · intro Es
          refine TO.shut rfl rfl rfl rfl ?_
          exact TO.done (X.ob rfl (Pick.refl _))
      refine TO.shut rfl rfl rfl rfl ?_
      refine TO.pickT rfl rfl rfl rfl rfl ?_
      refine TO.done ?_
      refine X.seq_normal ?_
      refine T.trim (AllF.cons (t := 1) rfl (AllF.cons (t := 3) rfl (AllF.cons (t := 49) rfl AllF.nil))) ?_
      refine T.condT rfl rfl ?_
      refine T.seq ?_
      refine T.regionL (ll := [0]) rfl ?_
      refine TO.assign rfl rfl rfl rfl ?_
      refine TO.done ?_
      refine X.seq_normal ?_
      refine T.ret ?_
      refine X.then_ret ?_
      obtain rfl := ret1 H
      exact X.ret1 rfl rfl rfl rfl (Res.tmp rfl) Pick.nil ⟨rfl, rfl⟩
    ·
      obtain ⟨g76, H⟩ := gd_some H
      rcases ite_some H with ⟨g77, H⟩ | ⟨g77, H⟩
      ·
        apply T.drawQT [(21, _), (22, _), (23, _), (24, _), (25, _), (26, _), (27, _), (28, _), (29, _), (30, _), (31, _), (32, _), (33, _), (34, _), (35, _), (36, _), (37, _), (38, _), (39, _), (40, _), (41, _), (42, _), (43, _), (44, _), (45, _), (46, _), (47, _)]
        · exact mixed
        · kernel_rfl
        · kernel_rfl
        · exact rfl
        · exact rfl
        · refine ⟨?_, ?_, ?_, ?_, ?_, ?_, ?_, ?_, ?_, ?_, ?_, ?_, ?_, ?_, ?_, ?_, ?_, ?_, ?_, ?_, ?_, ?_, ?_, ?_, ?_, ?_, ?_, trivial⟩
          · intro Es
            refine TO.move rfl rfl rfl rfl ?_
            exact TO.done (X.ob rfl (Pick.refl _))
          · intro Es
            refine TO.bin rfl rfl rfl rfl rfl rfl ?_
            exact TO.done (X.ob rfl (Pick.refl _))
          · intro Es
            refine TO.move rfl rfl rfl rfl ?_
            refine TO.decB (t := 23) (b' := false) rfl (decide_eq_false g73) ?_
            exact TO.done (X.ob2 rfl (Pick.refl _))
          · intro Es
            refine TO.fieldAddr0 rfl rfl rfl rfl TWLCsrRows.f33_3 ?_
            exact TO.done (X.ob rfl (Pick.refl _))
          · intro Es
            refine TO.load1 rfl rfl rfl rfl TWLCsrRows.s30 (List.Mem.head _) rfl ?_
            exact TO.done (X.ob rfl (Pick.refl _))
          · intro Es
            refine TO.lenX (xs := r14.First) hn41 rfl rfl rfl rfl rfl TWLCsrRows.l30 ?_
            exact TO.done (X.ob rfl (Pick.refl _))
          · intro Es
            refine TO.fieldAddr0 rfl rfl rfl rfl TWLCsrRows.f24_0 ?_
            exact TO.done (X.ob rfl (Pick.refl _))
          · intro Es
            refine TO.load1 rfl rfl rfl rfl TWLCsrRows.s3 (List.Mem.tail _ (List.Mem.tail _ (List.Mem.tail _ (List.Mem.tail _ (List.Mem.tail _ (List.Mem.tail _ (List.Mem.tail _ (List.Mem.head _)))))))) rfl ?_
            exact TO.done (X.ob rfl (Pick.refl _))
          · intro Es
            refine TO.addG g74 rfl rfl rfl rfl rfl ?_
            exact TO.done (X.ob rfl (Pick.refl _))
          · intro Es
            refine TO.bin rfl rfl rfl rfl rfl rfl ?_
            exact TO.done (X.ob rfl (Pick.refl _))
          · intro Es
            refine TO.pickF rfl rfl rfl rfl rfl ?_
            exact TO.done (X.ob rfl (Pick.refl _))
          · intro Es
            refine TO.move rfl rfl rfl rfl ?_
            refine TO.decB (t := 32) (b' := false) rfl (decide_eq_false g75) ?_
            exact TO.done (X.ob2 rfl (Pick.refl _))
          · intro Es
            refine TO.fieldAddr0 rfl rfl rfl rfl TWLCsrRows.f33_3 ?_
            exact TO.done (X.ob rfl (Pick.refl _))
          · intro Es
            refine TO.load1 rfl rfl rfl rfl TWLCsrRows.s30 (List.Mem.head _) rfl ?_
            exact TO.done (X.ob rfl (Pick.refl _))
          · intro Es
            refine TO.ixV hz44 hc42 hn41 g76 rfl rfl rfl rfl rfl TWLCsrRows.l30 TWLCsrRows.n3 ?_
            exact TO.done (X.ob rfl (Pick.refl _))
          · intro Es
            refine TO.ldIV hz44 hc42 hn41 g76 rfl rfl rfl rfl TWLCsrRows.s3 (List.Mem.tail _ (List.Mem.head _)) ?_
            exact TO.done (X.ob rfl (Pick.refl _))
          · intro Es
            refine TO.bin rfl rfl rfl rfl rfl rfl ?_
            exact TO.done (X.ob rfl (Pick.refl _))
          · intro Es
            refine TO.pickF rfl rfl rfl rfl rfl ?_
            exact TO.done (X.ob rfl (Pick.refl _))
          · intro Es
            refine TO.move rfl rfl rfl rfl ?_
            refine TO.decB (t := 39) (b' := true) rfl (decide_eq_true g77) ?_
            exact TO.done (X.ob2 rfl (Pick.refl _))
          · intro Es
            refine TO.shut rfl rfl rfl rfl ?_
            exact TO.done (X.ob rfl (Pick.refl _))
          · intro Es
            refine TO.shut rfl rfl rfl rfl ?_
            exact TO.done (X.ob rfl (Pick.refl _))
          · intro Es
            refine TO.shut rfl rfl rfl rfl ?_
            exact TO.done (X.ob rfl (Pick.refl _))
          · intro Es
            refine TO.shut rfl rfl rfl rfl ?_
            exact TO.done (X.ob rfl (Pick.refl _))
          · intro Es
            refine TO.shut rfl rfl rfl rfl ?_
            exact TO.done (X.ob rfl (Pick.refl _))
          · intro Es
            refine TO.shut rfl rfl rfl rfl ?_
            exact TO.done (X.ob rfl (Pick.refl _))
          · intro Es
            refine TO.shut rfl rfl rfl rfl ?_
            exact TO.done (X.ob rfl (Pick.refl _))
          · intro Es
            refine TO.shut rfl rfl rfl rfl ?_
            exact TO.done (X.ob rfl (Pick.refl _))
        refine TO.shut rfl rfl rfl rfl ?_
        refine TO.pickT rfl rfl rfl rfl rfl ?_
        refine TO.done ?_
        refine X.seq_normal ?_
        refine T.trim (AllF.cons (t := 1) rfl (AllF.cons (t := 3) rfl (AllF.cons (t := 49) rfl AllF.nil))) ?_
        refine T.condT rfl rfl ?_
        refine T.seq ?_
        refine T.regionL (ll := [0]) rfl ?_
        refine TO.assign rfl rfl rfl rfl ?_
        refine TO.done ?_
        refine X.seq_normal ?_
        refine T.ret ?_
        refine X.then_ret ?_
        obtain rfl := ret1 H
        exact X.ret1 rfl rfl rfl rfl (Res.tmp rfl) Pick.nil ⟨rfl, rfl⟩
      ·
        obtain ⟨g78, H⟩ := gd_some H
        obtain ⟨r79, e80, H⟩ := bd_some H
        apply T.drawQT [(21, _), (22, _), (23, _), (24, _), (25, _), (26, _), (27, _), (28, _), (29, _), (30, _), (31, _), (32, _), (33, _), (34, _), (35, _), (36, _), (37, _), (38, _), (39, _), (40, _), (41, _), (42, _), (43, _), (44, _), (45, _), (46, _), (47, _)]
        · exact mixed
        · kernel_rfl
        · kernel_rfl
        · exact rfl
        · exact rfl
        · refine ⟨?_, ?_, ?_, ?_, ?_, ?_, ?_, ?_, ?_, ?_, ?_, ?_, ?_, ?_, ?_, ?_, ?_, ?_, ?_, ?_, ?_, ?_, ?_, ?_, ?_, ?_, ?_, trivial⟩
          · intro Es
            refine TO.move rfl rfl rfl rfl ?_
            exact TO.done (X.ob rfl (Pick.refl _))
          · intro Es
            refine TO.bin rfl rfl rfl rfl rfl rfl ?_
            exact TO.done (X.ob rfl (Pick.refl _))
          · intro Es
            refine TO.move rfl rfl rfl rfl ?_
            refine TO.decB (t := 23) (b' := false) rfl (decide_eq_false g73) ?_
            exact TO.done (X.ob2 rfl (Pick.refl _))
          · intro Es
            refine TO.fieldAddr0 rfl rfl rfl rfl TWLCsrRows.f33_3 ?_
            exact TO.done (X.ob rfl (Pick.refl _))
          · intro Es
            refine TO.load1 rfl rfl rfl rfl TWLCsrRows.s30 (List.Mem.head _) rfl ?_
            exact TO.done (X.ob rfl (Pick.refl _))
          · intro Es
            refine TO.lenX (xs := r14.First) hn41 rfl rfl rfl rfl rfl TWLCsrRows.l30 ?_
            exact TO.done (X.ob rfl (Pick.refl _))
          · intro Es
            refine TO.fieldAddr0 rfl rfl rfl rfl TWLCsrRows.f24_0 ?_
            exact TO.done (X.ob rfl (Pick.refl _))
          · intro Es
            refine TO.load1 rfl rfl rfl rfl TWLCsrRows.s3 (List.Mem.tail _ (List.Mem.tail _ (List.Mem.tail _ (List.Mem.tail _ (List.Mem.tail _ (List.Mem.tail _ (List.Mem.tail _ (List.Mem.head _)))))))) rfl ?_
            exact TO.done (X.ob rfl (Pick.refl _))
          · intro Es
            refine TO.addG g74 rfl rfl rfl rfl rfl ?_
            exact TO.done (X.ob rfl (Pick.refl _))
          · intro Es
            refine TO.bin rfl rfl rfl rfl rfl rfl ?_
            exact TO.done (X.ob rfl (Pick.refl _))
          · intro Es
            refine TO.pickF rfl rfl rfl rfl rfl ?_
            exact TO.done (X.ob rfl (Pick.refl _))
          · intro Es
            refine TO.move rfl rfl rfl rfl ?_
            refine TO.decB (t := 32) (b' := false) rfl (decide_eq_false g75) ?_
            exact TO.done (X.ob2 rfl (Pick.refl _))
          · intro Es
            refine TO.fieldAddr0 rfl rfl rfl rfl TWLCsrRows.f33_3 ?_
            exact TO.done (X.ob rfl (Pick.refl _))
          · intro Es
            refine TO.load1 rfl rfl rfl rfl TWLCsrRows.s30 (List.Mem.head _) rfl ?_
            exact TO.done (X.ob rfl (Pick.refl _))
          · intro Es
            refine TO.ixV hz44 hc42 hn41 g76 rfl rfl rfl rfl rfl TWLCsrRows.l30 TWLCsrRows.n3 ?_
            exact TO.done (X.ob rfl (Pick.refl _))
          · intro Es
            refine TO.ldIV hz44 hc42 hn41 g76 rfl rfl rfl rfl TWLCsrRows.s3 (List.Mem.tail _ (List.Mem.head _)) ?_
            exact TO.done (X.ob rfl (Pick.refl _))
          · intro Es
            refine TO.bin rfl rfl rfl rfl rfl rfl ?_
            exact TO.done (X.ob rfl (Pick.refl _))
          · intro Es
            refine TO.pickF rfl rfl rfl rfl rfl ?_
            exact TO.done (X.ob rfl (Pick.refl _))
          · intro Es
            refine TO.move rfl rfl rfl rfl ?_
            refine TO.decB (t := 39) (b' := false) rfl (decide_eq_false g77) ?_
            exact TO.done (X.ob2 rfl (Pick.refl _))
          · intro Es
            refine TO.fieldAddr0 rfl rfl rfl rfl TWLCsrRows.f33_3 ?_
            exact TO.done (X.ob rfl (Pick.refl _))
          · intro Es
            refine TO.load1 rfl rfl rfl rfl TWLCsrRows.s30 (List.Mem.head _) rfl ?_
            exact TO.done (X.ob rfl (Pick.refl _))
          · intro Es
            refine TO.fieldAddr0 rfl rfl rfl rfl TWLCsrRows.f24_0 ?_
            exact TO.done (X.ob rfl (Pick.refl _))
          · intro Es
            refine TO.load1 rfl rfl rfl rfl TWLCsrRows.s3 (List.Mem.tail _ (List.Mem.tail _ (List.Mem.tail _ (List.Mem.tail _ (List.Mem.tail _ (List.Mem.tail _ (List.Mem.tail _ (List.Mem.head _)))))))) rfl ?_
            exact TO.done (X.ob rfl (Pick.refl _))
          · intro Es
            refine TO.ixV hz44 hc42 hn41 g78 rfl rfl rfl rfl rfl TWLCsrRows.l30 TWLCsrRows.n3 ?_
            exact TO.done (X.ob rfl (Pick.refl _))
          · intro Es
            refine TO.ldIV hz44 hc42 hn41 g78 rfl rfl rfl rfl TWLCsrRows.s3 (List.Mem.tail _ (List.Mem.head _)) ?_
            exact TO.done (X.ob rfl (Pick.refl _))
          · intro Es
            refine TO.loadA rfl rfl rfl rfl TWLCsrRows.a33 (List.Mem.head _) rfl ?_
            exact TO.done (X.ob rfl (Pick.refl _))
          · intro Es
            refine TO.callX TWLCsrRows.c22 rfl rfl rfl rfl (fun wc hwc => w_csr_Len (c0 := r14) wc (hwc.rs (f := (intC .i64)) (s := 1) (xs := r14.First) (j := j20) (fun _ => rfl) (List.Mem.tail _ (List.Mem.head _)) hn41 hc42 hz44) (hwc.rs (f := (intC .i64)) (s := 1) (xs := r14.Head) (j := j24) (fun _ => rfl) (List.Mem.tail _ (List.Mem.tail _ (List.Mem.head _))) hn45 hc46 hz48) (hwc.rs (f := (intC .i64)) (s := 1) (xs := r14.Rev) (j := j28) (fun _ => rfl) (List.Mem.tail _ (List.Mem.tail _ (List.Mem.tail _ (List.Mem.head _)))) hn49 hc50 hz52) (hwc.rs (f := (intC .i64)) (s := 1) (xs := r14.Cap) (j := j32) (fun _ => rfl) (List.Mem.tail _ (List.Mem.tail _ (List.Mem.tail _ (List.Mem.tail _ (List.Mem.head _))))) hn53 hc54 hz56) (hwc.rs (f := (intC .i64)) (s := 1) (xs := r14.Arc) (j := j36) (fun _ => rfl) (List.Mem.tail _ (List.Mem.tail _ (List.Mem.tail _ (List.Mem.tail _ (List.Mem.tail _ (List.Mem.head _)))))) hn57 hc58 hz60) (hwc.rs (f := boolC) (s := 1) (xs := r14.Back) (j := j40) (fun _ => rfl) (List.Mem.tail _ (List.Mem.tail _ (List.Mem.tail _ (List.Mem.tail _ (List.Mem.tail _ (List.Mem.tail _ (List.Mem.head _))))))) hn61 hc62 hz64) e80) ?_
            rintro _ _ ⟨rfl, rfl⟩
            exact TO.done (X.ob rfl (Pick.refl _))
        refine TO.bin rfl rfl rfl rfl rfl rfl ?_
        refine TO.pickF rfl rfl rfl rfl rfl ?_
        refine TO.done ?_
        refine X.seq_normal ?_
        refine T.trim (AllF.cons (t := 1) rfl (AllF.cons (t := 3) rfl (AllF.cons (t := 49) rfl AllF.nil))) ?_
        rcases ite_some H with ⟨g81, H⟩ | ⟨g81, H⟩
        ·
          refine T.condPT rfl g81 ?_
          refine T.seq ?_
          refine T.regionL (ll := [0]) rfl ?_
          refine TO.assign rfl rfl rfl rfl ?_
          refine TO.done ?_
          refine X.seq_normal ?_
          refine T.ret ?_
          refine X.then_ret ?_
          obtain rfl := ret1 H
          exact X.ret1 rfl rfl rfl rfl (Res.tmp rfl) Pick.nil ⟨rfl, rfl⟩
        ·
          refine T.condPF rfl g81 ?_
          refine T.skip ?_
          refine X.seq_normal ?_
          refine T.seq ?_
          obtain ⟨g82, H⟩ := gd_some H
          refine T.regionL (ll := [0, 1, 2, 3, 4]) rfl ?_
          refine TO.fieldAddr0 rfl rfl rfl rfl TWLCsrRows.f24_3 ?_
          refine TO.load1 rfl rfl rfl rfl TWLCsrRows.s22 (List.Mem.tail _ (List.Mem.tail _ (List.Mem.tail _ (List.Mem.tail _ (List.Mem.tail _ (List.Mem.tail _ (List.Mem.tail _ (List.Mem.head _)))))))) rfl ?_
          refine TO.lenX (xs := r3.Arcs) hn9 rfl rfl rfl rfl rfl TWLCsrRows.l22 ?_
          refine TO.mkI g82 rfl rfl rfl rfl rfl TWLCsrRows.l30 TWLCsrRows.n3 TWLCsrRows.z3 TWLCsrRows.b3 rfl ?_; intro b83
          refine TO.assign rfl rfl rfl rfl ?_
          refine TO.done ?_
          refine X.seq_normal ?_
          refine T.seq ?_
          refine T.seq ?_
          refine T.regionL (ll := [0, 1, 2]) rfl ?_
          refine TO.fieldAddr0 rfl rfl rfl rfl TWLCsrRows.f24_0 ?_
          refine TO.load1 rfl rfl rfl rfl TWLCsrRows.s3 (List.Mem.tail _ (List.Mem.tail _ (List.Mem.tail _ (List.Mem.tail _ (List.Mem.tail _ (List.Mem.tail _ (List.Mem.tail _ (List.Mem.tail _ (List.Mem.head _))))))))) rfl ?_
          refine TO.move rfl rfl rfl rfl ?_
          refine TO.done ?_
          refine X.seq_normal ?_
          refine T.meetSE1 (fun (xs124 : List Int) => m_acequialaw02_CsrRows_j4 r3 r14 xs124 = some r0 ∧ xs124.length = (r3.Arcs.length : Int).toNat) (fun (xs124 : List Int) => [(1, .pointer (some ⟨b1, 0, none⟩)), (3, .pointer (some ⟨b71, 0, none⟩)), (5, .slice (some ⟨b83, 0, none⟩) ((r3.Arcs.length : Int).toNat) ((r3.Arcs.length : Int).toNat))]) (fun (xs124 : List Int) => [(some b1, .cells #[.int .i64 r3.N, .int .i64 r3.S, .int .i64 r3.T, .slice (sb ob5) n6 c7] 24 (0, 0)), (ob5, .cells (arr arcC r3.Arcs j8).toArray 28 (0, 0)), (some b71, .cells #[.int .i64 r14.N, .int .i64 r14.S, .int .i64 r14.T, .slice (sb ob17) n18 c19, .slice (sb ob21) n22 c23, .slice (sb ob25) n26 c27, .slice (sb ob29) n30 c31, .slice (sb ob33) n34 c35, .slice (sb ob37) n38 c39] 33 (0, 0)), (ob17, .cells (arr (intC .i64) r14.First j20).toArray 3 (0, 0)), (ob21, .cells (arr (intC .i64) r14.Head j24).toArray 3 (0, 0)), (ob25, .cells (arr (intC .i64) r14.Rev j28).toArray 3 (0, 0)), (ob29, .cells (arr (intC .i64) r14.Cap j32).toArray 2 (0, 0)), (ob33, .cells (arr (intC .i64) r14.Arc j36).toArray 3 (0, 0)), (ob37, .cells (arr boolC r14.Back j40).toArray 4 (0, 0)), (some b83, .cells (arr (intC .i64) xs124 ([])).toArray 3 (0, 0))]) ?_ ?_
          ·
            refine T.block ?_
            obtain ⟨o_1, e_1, K_1⟩ := bd_some H
            refine T.loopE3 (fun (m_1 : Nat) (xs85 : List Int) (x87 : Int) => loopM (fun s => m_acequialaw02_CsrRows_s1 r3 r14 s.1 s.2) m_1 (xs85, x87) = some o_1 ∧ xs85.length = (r3.Arcs.length : Int).toNat) (fun (m_1 : Nat) (xs85 : List Int) (x87 : Int) => [(1, .pointer (some ⟨b1, 0, none⟩)), (3, .pointer (some ⟨b71, 0, none⟩)), (5, .slice (some ⟨b83, 0, none⟩) ((r3.Arcs.length : Int).toNat) ((r3.Arcs.length : Int).toNat)), (55, .int .i64 r3.N), (56, .int .i64 x87)]) (fun (m_1 : Nat) (xs85 : List Int) (x87 : Int) => [(some b1, .cells #[.int .i64 r3.N, .int .i64 r3.S, .int .i64 r3.T, .slice (sb ob5) n6 c7] 24 (0, 0)), (ob5, .cells (arr arcC r3.Arcs j8).toArray 28 (0, 0)), (some b71, .cells #[.int .i64 r14.N, .int .i64 r14.S, .int .i64 r14.T, .slice (sb ob17) n18 c19, .slice (sb ob21) n22 c23, .slice (sb ob25) n26 c27, .slice (sb ob29) n30 c31, .slice (sb ob33) n34 c35, .slice (sb ob37) n38 c39] 33 (0, 0)), (ob17, .cells (arr (intC .i64) r14.First j20).toArray 3 (0, 0)), (ob21, .cells (arr (intC .i64) r14.Head j24).toArray 3 (0, 0)), (ob25, .cells (arr (intC .i64) r14.Rev j28).toArray 3 (0, 0)), (ob29, .cells (arr (intC .i64) r14.Cap j32).toArray 2 (0, 0)), (ob33, .cells (arr (intC .i64) r14.Arc j36).toArray 3 (0, 0)), (ob37, .cells (arr boolC r14.Back j40).toArray 4 (0, 0)), (some b83, .cells (arr (intC .i64) xs85 ([])).toArray 3 (0, 0))]) (fun (m_1 : Nat) (xs85 : List Int) (x87 : Int) => m_1) FUEL (List.replicate ((r3.Arcs.length : Int).toNat) (0 : Int)) 0 ⟨e_1, List.length_replicate⟩ (AllF.cons rfl (AllF.cons rfl (AllF.cons rfl (AllF.cons rfl (AllF.cons rfl AllF.nil))))) (Pick.cons (Take.tail (Take.tail (Take.tail (Take.tail (Take.tail (Take.tail (Take.tail (Take.tail (Take.head _ _))))))))) (Pick.cons (Take.tail (Take.tail (Take.tail (Take.tail (Take.tail (Take.tail (Take.tail (Take.tail (Take.head _ _))))))))) (Pick.cons (Take.tail (Take.head _ _)) (Pick.cons (Take.tail (Take.head _ _)) (Pick.cons (Take.tail (Take.head _ _)) (Pick.cons (Take.tail (Take.head _ _)) (Pick.cons (Take.tail (Take.head _ _)) (Pick.cons (Take.tail (Take.head _ _)) (Pick.cons (Take.tail (Take.head _ _)) (Pick.cons (Take.head _ _) Pick.nil)))))))))) ?_
            rintro m_1 xs85 x87 ⟨H, hn86⟩
            obtain ⟨n_1, r_1, rfl, H, C_1⟩ := loopM_some H
            have H : m_acequialaw02_CsrRows_s1 r3 r14 xs85 x87 = some r_1 := H
            unfold m_acequialaw02_CsrRows_s1 at H
            refine T.seq ?_
            refine T.regionL (ll := [0]) rfl ?_
            refine TO.bin rfl rfl rfl rfl rfl rfl ?_
            refine TO.done ?_
            refine X.seq_normal ?_
            refine T.seq ?_
            rcases ite_some H with ⟨g88, H⟩ | ⟨g88, H⟩
            ·
              refine T.condPT rfl g88 ?_
              refine T.skip ?_
              refine X.seq_normal ?_
              refine T.seq ?_
              refine T.meetSE1 (fun (xs121 : List Int) => m_acequialaw02_CsrRows_j3 x87 xs121 = some r_1 ∧ xs121.length = (r3.Arcs.length : Int).toNat) (fun (xs121 : List Int) => [(1, .pointer (some ⟨b1, 0, none⟩)), (3, .pointer (some ⟨b71, 0, none⟩)), (5, .slice (some ⟨b83, 0, none⟩) ((r3.Arcs.length : Int).toNat) ((r3.Arcs.length : Int).toNat)), (55, .int .i64 r3.N), (56, .int .i64 x87)]) (fun (xs121 : List Int) => [(some b1, .cells #[.int .i64 r3.N, .int .i64 r3.S, .int .i64 r3.T, .slice (sb ob5) n6 c7] 24 (0, 0)), (ob5, .cells (arr arcC r3.Arcs j8).toArray 28 (0, 0)), (some b71, .cells #[.int .i64 r14.N, .int .i64 r14.S, .int .i64 r14.T, .slice (sb ob17) n18 c19, .slice (sb ob21) n22 c23, .slice (sb ob25) n26 c27, .slice (sb ob29) n30 c31, .slice (sb ob33) n34 c35, .slice (sb ob37) n38 c39] 33 (0, 0)), (ob17, .cells (arr (intC .i64) r14.First j20).toArray 3 (0, 0)), (ob21, .cells (arr (intC .i64) r14.Head j24).toArray 3 (0, 0)), (ob25, .cells (arr (intC .i64) r14.Rev j28).toArray 3 (0, 0)), (ob29, .cells (arr (intC .i64) r14.Cap j32).toArray 2 (0, 0)), (ob33, .cells (arr (intC .i64) r14.Arc j36).toArray 3 (0, 0)), (ob37, .cells (arr boolC r14.Back j40).toArray 4 (0, 0)), (some b83, .cells (arr (intC .i64) xs121 ([])).toArray 3 (0, 0))]) ?_ ?_
              ·
                refine T.block ?_
                refine T.seq ?_
                refine T.regionL (ll := [0, 1]) rfl ?_
                refine TO.move rfl rfl rfl rfl ?_
                refine TO.assign rfl rfl rfl rfl ?_
                refine TO.done ?_
                refine X.seq_normal ?_
                refine T.seq ?_
                refine T.seq ?_
                obtain ⟨g89, H⟩ := gd_some H
                obtain ⟨g90, H⟩ := gd_some H
                obtain ⟨g91, H⟩ := gd_some H
                apply T.drawQT [(59, _), (60, _), (61, _), (62, _), (63, _), (64, _), (65, _), (66, _), (67, _), (68, _), (69, _)]
                · exact mixed
                · kernel_rfl
                · kernel_rfl
                · exact rfl
                · exact rfl
                · refine ⟨?_, ?_, ?_, ?_, ?_, ?_, ?_, ?_, ?_, ?_, ?_, trivial⟩
                  · intro Es
                    refine TO.fieldAddr0 rfl rfl rfl rfl TWLCsrRows.f33_3 ?_
                    exact TO.done (X.ob rfl (Pick.refl _))
                  · intro Es
                    refine TO.load1 rfl rfl rfl rfl TWLCsrRows.s30 (List.Mem.tail _ (List.Mem.tail _ (List.Mem.head _))) rfl ?_
                    exact TO.done (X.ob rfl (Pick.refl _))
                  · intro Es
                    refine TO.move rfl rfl rfl rfl ?_
                    exact TO.done (X.ob rfl (Pick.refl _))
                  · intro Es
                    refine TO.ixV hz44 hc42 hn41 g89 rfl rfl rfl rfl rfl TWLCsrRows.l30 TWLCsrRows.n3 ?_
                    exact TO.done (X.ob rfl (Pick.refl _))
                  · intro Es
                    refine TO.ldIV hz44 hc42 hn41 g89 rfl rfl rfl rfl TWLCsrRows.s3 (List.Mem.tail _ (List.Mem.tail _ (List.Mem.tail _ (List.Mem.head _)))) ?_
                    exact TO.done (X.ob rfl (Pick.refl _))
                  · intro Es
                    refine TO.fieldAddr0 rfl rfl rfl rfl TWLCsrRows.f33_3 ?_
                    exact TO.done (X.ob rfl (Pick.refl _))
                  · intro Es
                    refine TO.load1 rfl rfl rfl rfl TWLCsrRows.s30 (List.Mem.tail _ (List.Mem.tail _ (List.Mem.head _))) rfl ?_
                    exact TO.done (X.ob rfl (Pick.refl _))
                  · intro Es
                    refine TO.move rfl rfl rfl rfl ?_
                    exact TO.done (X.ob rfl (Pick.refl _))
                  · intro Es
                    refine TO.addG g90 rfl rfl rfl rfl rfl ?_
                    exact TO.done (X.ob rfl (Pick.refl _))
                  · intro Es
                    refine TO.ixV hz44 hc42 hn41 g91 rfl rfl rfl rfl rfl TWLCsrRows.l30 TWLCsrRows.n3 ?_
                    exact TO.done (X.ob rfl (Pick.refl _))
                  · intro Es
                    refine TO.ldIV hz44 hc42 hn41 g91 rfl rfl rfl rfl TWLCsrRows.s3 (List.Mem.tail _ (List.Mem.tail _ (List.Mem.tail _ (List.Mem.head _)))) ?_
                    exact TO.done (X.ob rfl (Pick.refl _))
                refine TO.bin rfl rfl rfl rfl rfl rfl ?_
                refine TO.done ?_
                refine X.seq_normal ?_
                refine T.trim (AllF.cons (t := 1) rfl (AllF.cons (t := 3) rfl (AllF.cons (t := 5) rfl (AllF.cons (t := 55) rfl (AllF.cons (t := 56) rfl (AllF.cons (t := 6) rfl (AllF.cons (t := 70) rfl AllF.nil))))))) ?_
                rcases ite_some H with ⟨g92, H⟩ | ⟨g92, H⟩
                ·
                  refine T.condPT rfl g92 ?_
                  refine T.seq ?_
                  refine T.regionL (ll := [0]) rfl ?_
                  refine TO.assign rfl rfl rfl rfl ?_
                  refine TO.done ?_
                  refine X.seq_normal ?_
                  refine T.ret ?_
                  refine X.then_ret ?_
                  refine X.block_ret ?_
                  refine X.then_ret ?_
                  have H := loop_exitE H C_1 ▸ K_1
                  refine X.then_ret ?_
                  refine X.block_ret ?_
                  refine X.then_ret ?_
                  obtain rfl := ret1 H
                  exact X.ret1 rfl rfl rfl rfl (Res.tmp rfl) Pick.nil ⟨rfl, rfl⟩
                ·
                  refine T.condPF rfl g92 ?_
                  refine T.skip ?_
                  refine X.seq_normal ?_
                  refine T.seq ?_
                  obtain ⟨g93, H⟩ := gd_some H
                  refine T.regionL (ll := [0, 1, 2, 3, 4, 5]) rfl ?_
                  refine TO.fieldAddr0 rfl rfl rfl rfl TWLCsrRows.f33_3 ?_
                  refine TO.load1 rfl rfl rfl rfl TWLCsrRows.s30 (List.Mem.tail _ (List.Mem.tail _ (List.Mem.head _))) rfl ?_
                  refine TO.move rfl rfl rfl rfl ?_
                  refine TO.ixV hz44 hc42 hn41 g93 rfl rfl rfl rfl rfl TWLCsrRows.l30 TWLCsrRows.n3 ?_
                  refine TO.ldIV hz44 hc42 hn41 g93 rfl rfl rfl rfl TWLCsrRows.s3 (List.Mem.tail _ (List.Mem.tail _ (List.Mem.tail _ (List.Mem.head _)))) ?_
                  refine TO.assign rfl rfl rfl rfl ?_
                  refine TO.done ?_
                  refine X.seq_normal ?_
                  refine T.block ?_
                  obtain ⟨o_2, e_2, K_2⟩ := bd_some H
                  refine T.loopE3 (fun (m_2 : Nat) (xs94 : List Int) (a96 : Int) => loopM (fun s => m_acequialaw02_CsrRows_s2 r14 x87 s.1 s.2) m_2 (xs94, a96) = some o_2 ∧ xs94.length = (r3.Arcs.length : Int).toNat) (fun (m_2 : Nat) (xs94 : List Int) (a96 : Int) => [(1, .pointer (some ⟨b1, 0, none⟩)), (3, .pointer (some ⟨b71, 0, none⟩)), (5, .slice (some ⟨b83, 0, none⟩) ((r3.Arcs.length : Int).toNat) ((r3.Arcs.length : Int).toNat)), (6, .int .i64 x87), (7, .int .i64 a96), (55, .int .i64 r3.N), (56, .int .i64 x87)]) (fun (m_2 : Nat) (xs94 : List Int) (a96 : Int) => [(some b1, .cells #[.int .i64 r3.N, .int .i64 r3.S, .int .i64 r3.T, .slice (sb ob5) n6 c7] 24 (0, 0)), (ob5, .cells (arr arcC r3.Arcs j8).toArray 28 (0, 0)), (some b71, .cells #[.int .i64 r14.N, .int .i64 r14.S, .int .i64 r14.T, .slice (sb ob17) n18 c19, .slice (sb ob21) n22 c23, .slice (sb ob25) n26 c27, .slice (sb ob29) n30 c31, .slice (sb ob33) n34 c35, .slice (sb ob37) n38 c39] 33 (0, 0)), (ob17, .cells (arr (intC .i64) r14.First j20).toArray 3 (0, 0)), (ob21, .cells (arr (intC .i64) r14.Head j24).toArray 3 (0, 0)), (ob25, .cells (arr (intC .i64) r14.Rev j28).toArray 3 (0, 0)), (ob29, .cells (arr (intC .i64) r14.Cap j32).toArray 2 (0, 0)), (ob33, .cells (arr (intC .i64) r14.Arc j36).toArray 3 (0, 0)), (ob37, .cells (arr boolC r14.Back j40).toArray 4 (0, 0)), (some b83, .cells (arr (intC .i64) xs94 ([])).toArray 3 (0, 0))]) (fun (m_2 : Nat) (xs94 : List Int) (a96 : Int) => m_2) FUEL xs85 (r14.First.getD x87.toNat 0) ⟨e_2, hn86⟩ (AllF.cons rfl (AllF.cons rfl (AllF.cons rfl (AllF.cons rfl (AllF.cons rfl (AllF.cons rfl (AllF.cons rfl AllF.nil))))))) (Pick.cons (Take.head _ _) (Pick.cons (Take.head _ _) (Pick.cons (Take.head _ _) (Pick.cons (Take.head _ _) (Pick.cons (Take.head _ _) (Pick.cons (Take.head _ _) (Pick.cons (Take.head _ _) (Pick.cons (Take.head _ _) (Pick.cons (Take.head _ _) (Pick.cons (Take.head _ _) Pick.nil)))))))))) ?_
                  rintro m_2 xs94 a96 ⟨H, hn95⟩
                  obtain ⟨n_2, r_2, rfl, H, C_2⟩ := loopM_some H
                  have H : m_acequialaw02_CsrRows_s2 r14 x87 xs94 a96 = some r_2 := H
                  unfold m_acequialaw02_CsrRows_s2 at H
                  refine T.seq ?_
                  refine T.seq ?_
                  obtain ⟨g97, H⟩ := gd_some H
                  obtain ⟨g98, H⟩ := gd_some H
                  refine T.regionL (ll := [0, 1, 2, 3, 4, 5, 6, 7]) rfl ?_
                  refine TO.move rfl rfl rfl rfl ?_
                  refine TO.fieldAddr0 rfl rfl rfl rfl TWLCsrRows.f33_3 ?_
                  refine TO.load1 rfl rfl rfl rfl TWLCsrRows.s30 (List.Mem.tail _ (List.Mem.tail _ (List.Mem.head _))) rfl ?_
                  refine TO.move rfl rfl rfl rfl ?_
                  refine TO.addG g97 rfl rfl rfl rfl rfl ?_
                  refine TO.ixV hz44 hc42 hn41 g98 rfl rfl rfl rfl rfl TWLCsrRows.l30 TWLCsrRows.n3 ?_
                  refine TO.ldIV hz44 hc42 hn41 g98 rfl rfl rfl rfl TWLCsrRows.s3 (List.Mem.tail _ (List.Mem.tail _ (List.Mem.tail _ (List.Mem.head _)))) ?_
                  refine TO.bin rfl rfl rfl rfl rfl rfl ?_
                  refine TO.done ?_
                  refine X.seq_normal ?_
                  rcases ite_some H with ⟨g99, H⟩ | ⟨g99, H⟩
                  ·
                    refine T.condPT rfl g99 ?_
                    refine T.skip ?_
                    refine X.seq_normal ?_
                    refine T.trim (AllF.cons (t := 1) rfl (AllF.cons (t := 3) rfl (AllF.cons (t := 5) rfl (AllF.cons (t := 6) rfl (AllF.cons (t := 7) rfl (AllF.cons (t := 55) rfl (AllF.cons (t := 56) rfl AllF.nil))))))) ?_
                    refine T.seq ?_
                    refine T.block ?_
                    refine T.seq ?_
                    obtain ⟨⟨r100, r101⟩, e102, H⟩ := bd_some H
                    refine T.regionL (ll := [0, 1, 2, 3, 4, 5, 6, 7]) rfl ?_
                    refine TO.loadA rfl rfl rfl rfl TWLCsrRows.a33 (List.Mem.tail _ (List.Mem.tail _ (List.Mem.head _))) rfl ?_
                    refine TO.move rfl rfl rfl rfl ?_
                    refine TO.callX TWLCsrRows.c26 rfl rfl rfl rfl (fun wc hwc => w_csr_Tail (c0 := r14) (a1 := a96) wc (hwc.rs (f := (intC .i64)) (s := 1) (xs := r14.First) (j := j20) (fun _ => rfl) (List.Mem.tail _ (List.Mem.tail _ (List.Mem.tail _ (List.Mem.head _)))) hn41 hc42 hz44) (hwc.rs (f := (intC .i64)) (s := 1) (xs := r14.Head) (j := j24) (fun _ => rfl) (List.Mem.tail _ (List.Mem.tail _ (List.Mem.tail _ (List.Mem.tail _ (List.Mem.head _))))) hn45 hc46 hz48) (hwc.rs (f := (intC .i64)) (s := 1) (xs := r14.Rev) (j := j28) (fun _ => rfl) (List.Mem.tail _ (List.Mem.tail _ (List.Mem.tail _ (List.Mem.tail _ (List.Mem.tail _ (List.Mem.head _)))))) hn49 hc50 hz52) (hwc.rs (f := (intC .i64)) (s := 1) (xs := r14.Cap) (j := j32) (fun _ => rfl) (List.Mem.tail _ (List.Mem.tail _ (List.Mem.tail _ (List.Mem.tail _ (List.Mem.tail _ (List.Mem.tail _ (List.Mem.head _))))))) hn53 hc54 hz56) (hwc.rs (f := (intC .i64)) (s := 1) (xs := r14.Arc) (j := j36) (fun _ => rfl) (List.Mem.tail _ (List.Mem.tail _ (List.Mem.tail _ (List.Mem.tail _ (List.Mem.tail _ (List.Mem.tail _ (List.Mem.tail _ (List.Mem.head _)))))))) hn57 hc58 hz60) (hwc.rs (f := boolC) (s := 1) (xs := r14.Back) (j := j40) (fun _ => rfl) (List.Mem.tail _ (List.Mem.tail _ (List.Mem.tail _ (List.Mem.tail _ (List.Mem.tail _ (List.Mem.tail _ (List.Mem.tail _ (List.Mem.tail _ (List.Mem.head _))))))))) hn61 hc62 hz64) e102) ?_
                    rintro _ _ ⟨rfl, rfl⟩
                    refine TO.move rfl rfl rfl rfl ?_
                    refine TO.extract rfl rfl rfl rfl rfl ?_
                    refine TO.extract rfl rfl rfl rfl rfl ?_
                    refine TO.assign rfl rfl rfl rfl ?_
                    refine TO.assign rfl rfl rfl rfl ?_
                    refine TO.done ?_
                    refine X.seq_normal ?_
                    refine T.seq ?_
                    refine T.seq ?_
                    rcases ite_some H with ⟨g103, H⟩ | ⟨g103, H⟩
                    ·
                      apply T.drawQT [(92, _), (93, _), (94, _), (95, _), (96, _), (97, _), (98, _), (99, _), (100, _), (101, _), (102, _), (103, _), (104, _), (105, _), (106, _), (107, _), (108, _), (109, _), (110, _), (111, _), (112, _), (113, _), (114, _), (115, _), (116, _), (117, _), (118, _)]
                      · exact mixed
                      · kernel_rfl
                      · kernel_rfl
                      · exact rfl
                      · exact rfl
                      · refine ⟨?_, ?_, ?_, ?_, ?_, ?_, ?_, ?_, ?_, ?_, ?_, ?_, ?_, ?_, ?_, ?_, ?_, ?_, ?_, ?_, ?_, ?_, ?_, ?_, ?_, ?_, ?_, trivial⟩
                        · intro Es
                          refine TO.move rfl rfl rfl rfl ?_
                          exact TO.done (X.ob rfl (Pick.refl _))
                        · intro Es
                          refine TO.not rfl rfl rfl rfl ?_
                          exact TO.done (X.ob rfl (Pick.refl _))
                        · intro Es
                          refine TO.move rfl rfl rfl rfl ?_
                          refine TO.decB (t := 94) (b' := true) rfl g103 ?_
                          exact TO.done (X.ob2 rfl (Pick.refl _))
                        · intro Es
                          refine TO.shut rfl rfl rfl rfl ?_
                          exact TO.done (X.ob rfl (Pick.refl _))
                        · intro Es
                          refine TO.shut rfl rfl rfl rfl ?_
                          exact TO.done (X.ob rfl (Pick.refl _))
                        · intro Es
                          refine TO.shut rfl rfl rfl rfl ?_
                          exact TO.done (X.ob rfl (Pick.refl _))
                        · intro Es
                          refine TO.pickT rfl rfl rfl rfl rfl ?_
                          exact TO.done (X.ob rfl (Pick.refl _))
                        · intro Es
                          refine TO.move rfl rfl rfl rfl ?_
                          exact TO.done (X.ob rfl (Pick.refl _))
                        · intro Es
                          refine TO.shut rfl rfl rfl rfl ?_
                          exact TO.done (X.ob rfl (Pick.refl _))
                        · intro Es
                          refine TO.shut rfl rfl rfl rfl ?_
                          exact TO.done (X.ob rfl (Pick.refl _))
                        · intro Es
                          refine TO.shut rfl rfl rfl rfl ?_
                          exact TO.done (X.ob rfl (Pick.refl _))
                        · intro Es
                          refine TO.shut rfl rfl rfl rfl ?_
                          exact TO.done (X.ob rfl (Pick.refl _))
                        · intro Es
                          refine TO.shut rfl rfl rfl rfl ?_
                          exact TO.done (X.ob rfl (Pick.refl _))
                        · intro Es
                          refine TO.shut rfl rfl rfl rfl ?_
                          exact TO.done (X.ob rfl (Pick.refl _))
                        · intro Es
                          refine TO.shut rfl rfl rfl rfl ?_
                          exact TO.done (X.ob rfl (Pick.refl _))
                        · intro Es
                          refine TO.shut rfl rfl rfl rfl ?_
                          exact TO.done (X.ob rfl (Pick.refl _))
                        · intro Es
                          refine TO.shutU rfl rfl rfl rfl ?_
                          exact TO.done (X.ob rfl (Pick.refl _))
                        · intro Es
                          refine TO.shutU rfl rfl rfl rfl ?_
                          exact TO.done (X.ob rfl (Pick.refl _))
                        · intro Es
                          refine TO.shutU rfl rfl rfl rfl ?_
                          exact TO.done (X.ob rfl (Pick.refl _))
                        · intro Es
                          refine TO.shutU rfl rfl rfl rfl ?_
                          exact TO.done (X.ob rfl (Pick.refl _))
                        · intro Es
                          refine TO.shutU rfl rfl rfl rfl ?_
                          exact TO.done (X.ob rfl (Pick.refl _))
                        · intro Es
                          refine TO.shutU rfl rfl rfl rfl ?_
                          exact TO.done (X.ob rfl (Pick.refl _))
                        · intro Es
                          refine TO.shutU rfl rfl rfl rfl ?_
                          exact TO.done (X.ob rfl (Pick.refl _))
                        · intro Es
                          refine TO.shutU rfl rfl rfl rfl ?_
                          exact TO.done (X.ob rfl (Pick.refl _))
                        · intro Es
                          refine TO.shutU rfl rfl rfl rfl ?_
                          exact TO.done (X.ob rfl (Pick.refl _))
                        · intro Es
                          refine TO.shutU rfl rfl rfl rfl ?_
                          exact TO.done (X.ob rfl (Pick.refl _))
                        · intro Es
                          refine TO.shutU rfl rfl rfl rfl ?_
                          exact TO.done (X.ob rfl (Pick.refl _))
                      refine TO.shutU rfl rfl rfl rfl ?_
                      refine TO.shut rfl rfl rfl rfl ?_
                      refine TO.pickT rfl rfl rfl rfl rfl ?_
                      refine TO.done ?_
                      refine X.seq_normal ?_
                      refine T.trim (AllF.cons (t := 1) rfl (AllF.cons (t := 3) rfl (AllF.cons (t := 5) rfl (AllF.cons (t := 6) rfl (AllF.cons (t := 7) rfl (AllF.cons (t := 55) rfl (AllF.cons (t := 56) rfl (AllF.cons (t := 95) rfl (AllF.cons (t := 96) rfl (AllF.cons (t := 97) rfl (AllF.cons (t := 100) rfl (AllF.cons (t := 101) rfl (AllF.cons (t := 102) rfl (AllF.cons (t := 103) rfl (AllF.cons (t := 104) rfl (AllF.cons (t := 105) rfl (AllF.cons (t := 106) rfl (AllF.cons (t := 107) rfl (AllF.cons (t := 108) rfl (AllF.cons (t := 109) rfl (AllF.cons (t := 110) rfl (AllF.cons (t := 111) rfl (AllF.cons (t := 112) rfl (AllF.cons (t := 113) rfl (AllF.cons (t := 114) rfl (AllF.cons (t := 115) rfl (AllF.cons (t := 116) rfl (AllF.cons (t := 117) rfl (AllF.cons (t := 118) rfl (AllF.cons (t := 119) rfl (AllF.cons (t := 120) rfl (AllF.cons (t := 121) rfl AllF.nil)))))))))))))))))))))))))))))))) ?_
                      refine T.condT rfl rfl ?_
                      refine T.seq ?_
                      refine T.regionL (ll := [0]) rfl ?_
                      refine TO.assign rfl rfl rfl rfl ?_
                      refine TO.done ?_
                      refine X.seq_normal ?_
                      refine T.trim (AllF.cons (t := 2) rfl AllF.nil) ?_
                      refine T.ret ?_
                      refine X.then_ret ?_
                      refine X.block_ret ?_
                      refine X.then_ret ?_
                      have H := loop_exitE H C_2 ▸ K_2
                      refine X.then_ret ?_
                      refine X.block_ret ?_
                      refine X.block_ret ?_
                      refine X.then_ret ?_
                      have H := loop_exitE H C_1 ▸ K_1
                      refine X.then_ret ?_
                      refine X.block_ret ?_
                      refine X.then_ret ?_
                      obtain rfl := ret1 H
                      exact X.ret1 rfl rfl rfl rfl (Res.tmp rfl) Pick.nil ⟨rfl, rfl⟩
                    ·
                      rcases ite_some H with ⟨g104, H⟩ | ⟨g104, H⟩
                      ·
                        apply T.drawQT [(92, _), (93, _), (94, _), (95, _), (96, _), (97, _), (98, _), (99, _), (100, _), (101, _), (102, _), (103, _), (104, _), (105, _), (106, _), (107, _), (108, _), (109, _), (110, _), (111, _), (112, _), (113, _), (114, _), (115, _), (116, _), (117, _), (118, _)]
                        · exact mixed
                        · kernel_rfl
                        · kernel_rfl
                        · exact rfl
                        · exact rfl
                        · refine ⟨?_, ?_, ?_, ?_, ?_, ?_, ?_, ?_, ?_, ?_, ?_, ?_, ?_, ?_, ?_, ?_, ?_, ?_, ?_, ?_, ?_, ?_, ?_, ?_, ?_, ?_, ?_, trivial⟩
                          · intro Es
                            refine TO.move rfl rfl rfl rfl ?_
                            exact TO.done (X.ob rfl (Pick.refl _))
                          · intro Es
                            refine TO.not rfl rfl rfl rfl ?_
                            exact TO.done (X.ob rfl (Pick.refl _))
                          · intro Es
                            refine TO.move rfl rfl rfl rfl ?_
                            refine TO.decB (t := 94) (b' := false) rfl (Bool.eq_false_iff.2 g103) ?_
                            exact TO.done (X.ob2 rfl (Pick.refl _))
                          · intro Es
                            refine TO.move rfl rfl rfl rfl ?_
                            exact TO.done (X.ob rfl (Pick.refl _))
                          · intro Es
                            refine TO.move rfl rfl rfl rfl ?_
                            exact TO.done (X.ob rfl (Pick.refl _))
                          · intro Es
                            refine TO.bin rfl rfl rfl rfl rfl rfl ?_
                            exact TO.done (X.ob rfl (Pick.refl _))
                          · intro Es
                            refine TO.pickF rfl rfl rfl rfl rfl ?_
                            exact TO.done (X.ob rfl (Pick.refl _))
                          · intro Es
                            refine TO.move rfl rfl rfl rfl ?_
                            refine TO.decB (t := 99) (b' := true) rfl (decide_eq_true g104) ?_
                            exact TO.done (X.ob2 rfl (Pick.refl _))
                          · intro Es
                            refine TO.shut rfl rfl rfl rfl ?_
                            exact TO.done (X.ob rfl (Pick.refl _))
                          · intro Es
                            refine TO.shut rfl rfl rfl rfl ?_
                            exact TO.done (X.ob rfl (Pick.refl _))
                          · intro Es
                            refine TO.shut rfl rfl rfl rfl ?_
                            exact TO.done (X.ob rfl (Pick.refl _))
                          · intro Es
                            refine TO.shut rfl rfl rfl rfl ?_
                            exact TO.done (X.ob rfl (Pick.refl _))
                          · intro Es
                            refine TO.shut rfl rfl rfl rfl ?_
                            exact TO.done (X.ob rfl (Pick.refl _))
                          · intro Es
                            refine TO.shut rfl rfl rfl rfl ?_
                            exact TO.done (X.ob rfl (Pick.refl _))
                          · intro Es
                            refine TO.shut rfl rfl rfl rfl ?_
                            exact TO.done (X.ob rfl (Pick.refl _))
                          · intro Es
                            refine TO.shut rfl rfl rfl rfl ?_
                            exact TO.done (X.ob rfl (Pick.refl _))
                          · intro Es
                            refine TO.shutU rfl rfl rfl rfl ?_
                            exact TO.done (X.ob rfl (Pick.refl _))
                          · intro Es
                            refine TO.shutU rfl rfl rfl rfl ?_
                            exact TO.done (X.ob rfl (Pick.refl _))
                          · intro Es
                            refine TO.shutU rfl rfl rfl rfl ?_
                            exact TO.done (X.ob rfl (Pick.refl _))
                          · intro Es
                            refine TO.shutU rfl rfl rfl rfl ?_
                            exact TO.done (X.ob rfl (Pick.refl _))
                          · intro Es
                            refine TO.shutU rfl rfl rfl rfl ?_
                            exact TO.done (X.ob rfl (Pick.refl _))
                          · intro Es
                            refine TO.shutU rfl rfl rfl rfl ?_
                            exact TO.done (X.ob rfl (Pick.refl _))
                          · intro Es
                            refine TO.shutU rfl rfl rfl rfl ?_
                            exact TO.done (X.ob rfl (Pick.refl _))
                          · intro Es
                            refine TO.shutU rfl rfl rfl rfl ?_
                            exact TO.done (X.ob rfl (Pick.refl _))
                          · intro Es
                            refine TO.shutU rfl rfl rfl rfl ?_
                            exact TO.done (X.ob rfl (Pick.refl _))
                          · intro Es
                            refine TO.shutU rfl rfl rfl rfl ?_
                            exact TO.done (X.ob rfl (Pick.refl _))
                          · intro Es
                            refine TO.shutU rfl rfl rfl rfl ?_
                            exact TO.done (X.ob rfl (Pick.refl _))
                        refine TO.shutU rfl rfl rfl rfl ?_
                        refine TO.shut rfl rfl rfl rfl ?_
                        refine TO.pickT rfl rfl rfl rfl rfl ?_
                        refine TO.done ?_
                        refine X.seq_normal ?_
                        refine T.trim (AllF.cons (t := 1) rfl (AllF.cons (t := 3) rfl (AllF.cons (t := 5) rfl (AllF.cons (t := 6) rfl (AllF.cons (t := 7) rfl (AllF.cons (t := 55) rfl (AllF.cons (t := 56) rfl (AllF.cons (t := 95) rfl (AllF.cons (t := 96) rfl (AllF.cons (t := 97) rfl (AllF.cons (t := 100) rfl (AllF.cons (t := 101) rfl (AllF.cons (t := 102) rfl (AllF.cons (t := 103) rfl (AllF.cons (t := 104) rfl (AllF.cons (t := 105) rfl (AllF.cons (t := 106) rfl (AllF.cons (t := 107) rfl (AllF.cons (t := 108) rfl (AllF.cons (t := 109) rfl (AllF.cons (t := 110) rfl (AllF.cons (t := 111) rfl (AllF.cons (t := 112) rfl (AllF.cons (t := 113) rfl (AllF.cons (t := 114) rfl (AllF.cons (t := 115) rfl (AllF.cons (t := 116) rfl (AllF.cons (t := 117) rfl (AllF.cons (t := 118) rfl (AllF.cons (t := 119) rfl (AllF.cons (t := 120) rfl (AllF.cons (t := 121) rfl AllF.nil)))))))))))))))))))))))))))))))) ?_
                        refine T.condT rfl rfl ?_
                        refine T.seq ?_
                        refine T.regionL (ll := [0]) rfl ?_
                        refine TO.assign rfl rfl rfl rfl ?_
                        refine TO.done ?_
                        refine X.seq_normal ?_
                        refine T.trim (AllF.cons (t := 2) rfl AllF.nil) ?_
                        refine T.ret ?_
                        refine X.then_ret ?_
                        refine X.block_ret ?_
                        refine X.then_ret ?_
                        have H := loop_exitE H C_2 ▸ K_2
                        refine X.then_ret ?_
                        refine X.block_ret ?_
                        refine X.block_ret ?_
                        refine X.then_ret ?_
                        have H := loop_exitE H C_1 ▸ K_1
                        refine X.then_ret ?_
                        refine X.block_ret ?_
                        refine X.then_ret ?_
                        obtain rfl := ret1 H
                        exact X.ret1 rfl rfl rfl rfl (Res.tmp rfl) Pick.nil ⟨rfl, rfl⟩
                      ·
                        obtain ⟨g105, H⟩ := gd_some H
                        rcases ite_some H with ⟨g106, H⟩ | ⟨g106, H⟩
                        ·
                          obtain ⟨g107, H⟩ := gd_some H
                          obtain ⟨g108, H⟩ := gd_some H
                          obtain ⟨g109, H⟩ := gd_some H
                          apply T.drawQT [(92, _), (93, _), (94, _), (95, _), (96, _), (97, _), (98, _), (99, _), (100, _), (101, _), (102, _), (103, _), (104, _), (105, _), (106, _), (107, _), (108, _), (109, _), (110, _), (111, _), (112, _), (113, _), (114, _), (115, _), (116, _), (117, _), (118, _)]
                          · exact mixed
                          · kernel_rfl
                          · kernel_rfl
                          · exact rfl
                          · exact rfl
                          · refine ⟨?_, ?_, ?_, ?_, ?_, ?_, ?_, ?_, ?_, ?_, ?_, ?_, ?_, ?_, ?_, ?_, ?_, ?_, ?_, ?_, ?_, ?_, ?_, ?_, ?_, ?_, ?_, trivial⟩
                            · intro Es
                              refine TO.move rfl rfl rfl rfl ?_
                              exact TO.done (X.ob rfl (Pick.refl _))
                            · intro Es
                              refine TO.not rfl rfl rfl rfl ?_
                              exact TO.done (X.ob rfl (Pick.refl _))
                            · intro Es
                              refine TO.move rfl rfl rfl rfl ?_
                              refine TO.decB (t := 94) (b' := false) rfl (Bool.eq_false_iff.2 g103) ?_
                              exact TO.done (X.ob2 rfl (Pick.refl _))
                            · intro Es
                              refine TO.move rfl rfl rfl rfl ?_
                              exact TO.done (X.ob rfl (Pick.refl _))
                            · intro Es
                              refine TO.move rfl rfl rfl rfl ?_
                              exact TO.done (X.ob rfl (Pick.refl _))
                            · intro Es
                              refine TO.bin rfl rfl rfl rfl rfl rfl ?_
                              exact TO.done (X.ob rfl (Pick.refl _))
                            · intro Es
                              refine TO.pickF rfl rfl rfl rfl rfl ?_
                              exact TO.done (X.ob rfl (Pick.refl _))
                            · intro Es
                              refine TO.move rfl rfl rfl rfl ?_
                              refine TO.decB (t := 99) (b' := false) rfl (decide_eq_false g104) ?_
                              exact TO.done (X.ob2 rfl (Pick.refl _))
                            · intro Es
                              refine TO.move rfl rfl rfl rfl ?_
                              exact TO.done (X.ob rfl (Pick.refl _))
                            · intro Es
                              refine TO.fieldAddr0 rfl rfl rfl rfl TWLCsrRows.f33_3 ?_
                              exact TO.done (X.ob rfl (Pick.refl _))
                            · intro Es
                              refine TO.load1 rfl rfl rfl rfl TWLCsrRows.s30 (List.Mem.tail _ (List.Mem.tail _ (List.Mem.head _))) rfl ?_
                              exact TO.done (X.ob rfl (Pick.refl _))
                            · intro Es
                              refine TO.move rfl rfl rfl rfl ?_
                              exact TO.done (X.ob rfl (Pick.refl _))
                            · intro Es
                              refine TO.ixV hz44 hc42 hn41 g105 rfl rfl rfl rfl rfl TWLCsrRows.l30 TWLCsrRows.n3 ?_
                              exact TO.done (X.ob rfl (Pick.refl _))
                            · intro Es
                              refine TO.ldIV hz44 hc42 hn41 g105 rfl rfl rfl rfl TWLCsrRows.s3 (List.Mem.tail _ (List.Mem.tail _ (List.Mem.tail _ (List.Mem.head _)))) ?_
                              exact TO.done (X.ob rfl (Pick.refl _))
                            · intro Es
                              refine TO.bin rfl rfl rfl rfl rfl rfl ?_
                              exact TO.done (X.ob rfl (Pick.refl _))
                            · intro Es
                              refine TO.move rfl rfl rfl rfl ?_
                              refine TO.decB (t := 107) (b' := true) rfl (decide_eq_true g106) ?_
                              exact TO.done (X.ob2 rfl (Pick.refl _))
                            · intro Es
                              refine TO.fieldAddr0 rfl rfl rfl rfl TWLCsrRows.f33_7 ?_
                              exact TO.done (X.ob rfl (Pick.refl _))
                            · intro Es
                              refine TO.load1 rfl rfl rfl rfl TWLCsrRows.s30 (List.Mem.tail _ (List.Mem.tail _ (List.Mem.head _))) rfl ?_
                              exact TO.done (X.ob rfl (Pick.refl _))
                            · intro Es
                              refine TO.move rfl rfl rfl rfl ?_
                              exact TO.done (X.ob rfl (Pick.refl _))
                            · intro Es
                              refine TO.subG g107 rfl rfl rfl rfl rfl ?_
                              exact TO.done (X.ob rfl (Pick.refl _))
                            · intro Es
                              refine TO.ixV hz60 hc58 hn57 g108 rfl rfl rfl rfl rfl TWLCsrRows.l30 TWLCsrRows.n3 ?_
                              exact TO.done (X.ob rfl (Pick.refl _))
                            · intro Es
                              refine TO.ldIV hz60 hc58 hn57 g108 rfl rfl rfl rfl TWLCsrRows.s3 (List.Mem.tail _ (List.Mem.tail _ (List.Mem.tail _ (List.Mem.tail _ (List.Mem.tail _ (List.Mem.tail _ (List.Mem.tail _ (List.Mem.head _)))))))) ?_
                              exact TO.done (X.ob rfl (Pick.refl _))
                            · intro Es
                              refine TO.fieldAddr0 rfl rfl rfl rfl TWLCsrRows.f33_7 ?_
                              exact TO.done (X.ob rfl (Pick.refl _))
                            · intro Es
                              refine TO.load1 rfl rfl rfl rfl TWLCsrRows.s30 (List.Mem.tail _ (List.Mem.tail _ (List.Mem.head _))) rfl ?_
                              exact TO.done (X.ob rfl (Pick.refl _))
                            · intro Es
                              refine TO.move rfl rfl rfl rfl ?_
                              exact TO.done (X.ob rfl (Pick.refl _))
                            · intro Es
                              refine TO.ixV hz60 hc58 hn57 g109 rfl rfl rfl rfl rfl TWLCsrRows.l30 TWLCsrRows.n3 ?_
                              exact TO.done (X.ob rfl (Pick.refl _))
                            · intro Es
                              refine TO.ldIV hz60 hc58 hn57 g109 rfl rfl rfl rfl TWLCsrRows.s3 (List.Mem.tail _ (List.Mem.tail _ (List.Mem.tail _ (List.Mem.tail _ (List.Mem.tail _ (List.Mem.tail _ (List.Mem.tail _ (List.Mem.head _)))))))) ?_
                              exact TO.done (X.ob rfl (Pick.refl _))
                          refine TO.bin rfl rfl rfl rfl rfl rfl ?_
                          refine TO.pickT rfl rfl rfl rfl rfl ?_
                          refine TO.pickF rfl rfl rfl rfl rfl ?_
                          refine TO.done ?_
                          refine X.seq_normal ?_
                          refine T.trim (AllF.cons (t := 1) rfl (AllF.cons (t := 3) rfl (AllF.cons (t := 5) rfl (AllF.cons (t := 6) rfl (AllF.cons (t := 7) rfl (AllF.cons (t := 55) rfl (AllF.cons (t := 56) rfl (AllF.cons (t := 95) rfl (AllF.cons (t := 96) rfl (AllF.cons (t := 97) rfl (AllF.cons (t := 100) rfl (AllF.cons (t := 101) rfl (AllF.cons (t := 102) rfl (AllF.cons (t := 103) rfl (AllF.cons (t := 104) rfl (AllF.cons (t := 105) rfl (AllF.cons (t := 106) rfl (AllF.cons (t := 107) rfl (AllF.cons (t := 108) rfl (AllF.cons (t := 109) rfl (AllF.cons (t := 110) rfl (AllF.cons (t := 111) rfl (AllF.cons (t := 112) rfl (AllF.cons (t := 113) rfl (AllF.cons (t := 114) rfl (AllF.cons (t := 115) rfl (AllF.cons (t := 116) rfl (AllF.cons (t := 117) rfl (AllF.cons (t := 118) rfl (AllF.cons (t := 119) rfl (AllF.cons (t := 120) rfl (AllF.cons (t := 121) rfl AllF.nil)))))))))))))))))))))))))))))))) ?_
                          rcases ite_some H with ⟨g110, H⟩ | ⟨g110, H⟩
                          ·
                            refine T.condPT rfl g110 ?_
                            refine T.seq ?_
                            refine T.regionL (ll := [0]) rfl ?_
                            refine TO.assign rfl rfl rfl rfl ?_
                            refine TO.done ?_
                            refine X.seq_normal ?_
                            refine T.trim (AllF.cons (t := 2) rfl AllF.nil) ?_
                            refine T.ret ?_
                            refine X.then_ret ?_
                            refine X.block_ret ?_
                            refine X.then_ret ?_
                            have H := loop_exitE H C_2 ▸ K_2
                            refine X.then_ret ?_
                            refine X.block_ret ?_
                            refine X.block_ret ?_
                            refine X.then_ret ?_
                            have H := loop_exitE H C_1 ▸ K_1
                            refine X.then_ret ?_
                            refine X.block_ret ?_
                            refine X.then_ret ?_
                            obtain rfl := ret1 H
                            exact X.ret1 rfl rfl rfl rfl (Res.tmp rfl) Pick.nil ⟨rfl, rfl⟩
                          ·
                            refine T.condPF rfl g110 ?_
                            refine T.skip ?_
                            refine X.seq_normal ?_
                            obtain ⟨g111, H⟩ := gd_some H
                            obtain ⟨g112, H⟩ := gd_some H
                            obtain ⟨g113, H⟩ := gd_some H
                            obtain ⟨g114, H⟩ := gd_some H
                            refine T.regionL (ll := [0, 1, 2, 3, 4, 5, 6, 7, 8, 9, 10]) rfl ?_
                            refine TO.move rfl rfl rfl rfl ?_
                            refine TO.fieldAddr0 rfl rfl rfl rfl TWLCsrRows.f33_7 ?_
                            refine TO.load1 rfl rfl rfl rfl TWLCsrRows.s30 (List.Mem.tail _ (List.Mem.tail _ (List.Mem.head _))) rfl ?_
                            refine TO.move rfl rfl rfl rfl ?_
                            refine TO.ixV hz60 hc58 hn57 g111 rfl rfl rfl rfl rfl TWLCsrRows.l30 TWLCsrRows.n3 ?_
                            refine TO.ldIV hz60 hc58 hn57 g111 rfl rfl rfl rfl TWLCsrRows.s3 (List.Mem.tail _ (List.Mem.tail _ (List.Mem.tail _ (List.Mem.tail _ (List.Mem.tail _ (List.Mem.tail _ (List.Mem.tail _ (List.Mem.head _)))))))) ?_
                            refine TO.ix1 hn95 g112 rfl rfl rfl rfl rfl TWLCsrRows.l30 TWLCsrRows.n3 ?_
                            refine TO.ldIO g112 rfl rfl rfl rfl TWLCsrRows.s3 (List.Mem.tail _ (List.Mem.tail _ (List.Mem.tail _ (List.Mem.tail _ (List.Mem.tail _ (List.Mem.tail _ (List.Mem.tail _ (List.Mem.tail _ (List.Mem.tail _ (List.Mem.head _)))))))))) ?_
                            refine TO.addG g113 rfl rfl rfl rfl rfl ?_
                            refine TO.ix1 hn95 g114 rfl rfl rfl rfl rfl TWLCsrRows.l30 TWLCsrRows.n3 ?_
                            refine TO.stIO g114 rfl rfl rfl rfl (Take.tail (Take.tail (Take.tail (Take.tail (Take.tail (Take.tail (Take.tail (Take.tail (Take.tail (Take.head _ _)))))))))) TWLCsrRows.n3 ?_
                            refine TO.done ?_
                            refine X.block_normal ?_
                            refine X.seq_normal ?_
                            refine T.trim (AllF.cons (t := 1) rfl (AllF.cons (t := 3) rfl (AllF.cons (t := 5) rfl (AllF.cons (t := 6) rfl (AllF.cons (t := 7) rfl (AllF.cons (t := 55) rfl (AllF.cons (t := 56) rfl (AllF.cons (t := 95) rfl (AllF.cons (t := 96) rfl (AllF.cons (t := 97) rfl (AllF.cons (t := 100) rfl (AllF.cons (t := 101) rfl (AllF.cons (t := 102) rfl (AllF.cons (t := 103) rfl (AllF.cons (t := 104) rfl (AllF.cons (t := 105) rfl (AllF.cons (t := 106) rfl (AllF.cons (t := 107) rfl (AllF.cons (t := 108) rfl (AllF.cons (t := 109) rfl (AllF.cons (t := 110) rfl (AllF.cons (t := 111) rfl (AllF.cons (t := 112) rfl (AllF.cons (t := 113) rfl (AllF.cons (t := 114) rfl (AllF.cons (t := 115) rfl (AllF.cons (t := 116) rfl (AllF.cons (t := 117) rfl (AllF.cons (t := 118) rfl (AllF.cons (t := 119) rfl (AllF.cons (t := 120) rfl AllF.nil))))))))))))))))))))))))))))))) ?_
                            obtain ⟨g115, H⟩ := gd_some H
                            refine T.regionL (ll := [0, 1, 2]) rfl ?_
                            refine TO.move rfl rfl rfl rfl ?_
                            refine TO.addG g115 rfl rfl rfl rfl rfl ?_
                            refine TO.assign rfl rfl rfl rfl ?_
                            refine TO.done ?_
                            have H := loop_next H C_2
                            exact X.againE3 n_2 (xs94.set (r14.Arc.getD a96.toNat 0).toNat ((xs94.getD (r14.Arc.getD a96.toNat 0).toNat 0) + 1)) (a96 + 1) ⟨H, (List.length_set.trans hn95)⟩ (Nat.lt_succ_self _) (AllF.cons rfl (AllF.cons rfl (AllF.cons rfl (AllF.cons rfl (AllF.cons rfl (AllF.cons rfl (AllF.cons rfl AllF.nil))))))) (Pick.cons (Take.tail (Take.head _ _)) (Pick.cons (Take.tail (Take.head _ _)) (Pick.cons (Take.tail (Take.head _ _)) (Pick.cons (Take.tail (Take.head _ _)) (Pick.cons (Take.tail (Take.head _ _)) (Pick.cons (Take.tail (Take.head _ _)) (Pick.cons (Take.tail (Take.head _ _)) (Pick.cons (Take.tail (Take.head _ _)) (Pick.cons (Take.tail (Take.head _ _)) (Pick.cons (Take.head _ _) Pick.nil))))))))))
                        ·
                          apply T.drawQT [(92, _), (93, _), (94, _), (95, _), (96, _), (97, _), (98, _), (99, _), (100, _), (101, _), (102, _), (103, _), (104, _), (105, _), (106, _), (107, _), (108, _), (109, _), (110, _), (111, _), (112, _), (113, _), (114, _), (115, _), (116, _), (117, _), (118, _)]
                          · exact mixed
                          · kernel_rfl
                          · kernel_rfl
                          · exact rfl
                          · exact rfl
                          · refine ⟨?_, ?_, ?_, ?_, ?_, ?_, ?_, ?_, ?_, ?_, ?_, ?_, ?_, ?_, ?_, ?_, ?_, ?_, ?_, ?_, ?_, ?_, ?_, ?_, ?_, ?_, ?_, trivial⟩
                            · intro Es
                              refine TO.move rfl rfl rfl rfl ?_
                              exact TO.done (X.ob rfl (Pick.refl _))
                            · intro Es
                              refine TO.not rfl rfl rfl rfl ?_
                              exact TO.done (X.ob rfl (Pick.refl _))
                            · intro Es
                              refine TO.move rfl rfl rfl rfl ?_
                              refine TO.decB (t := 94) (b' := false) rfl (Bool.eq_false_iff.2 g103) ?_
                              exact TO.done (X.ob2 rfl (Pick.refl _))
                            · intro Es
                              refine TO.move rfl rfl rfl rfl ?_
                              exact TO.done (X.ob rfl (Pick.refl _))
                            · intro Es
                              refine TO.move rfl rfl rfl rfl ?_
                              exact TO.done (X.ob rfl (Pick.refl _))
                            · intro Es
                              refine TO.bin rfl rfl rfl rfl rfl rfl ?_
                              exact TO.done (X.ob rfl (Pick.refl _))
                            · intro Es
                              refine TO.pickF rfl rfl rfl rfl rfl ?_
                              exact TO.done (X.ob rfl (Pick.refl _))
                            · intro Es
                              refine TO.move rfl rfl rfl rfl ?_
                              refine TO.decB (t := 99) (b' := false) rfl (decide_eq_false g104) ?_
                              exact TO.done (X.ob2 rfl (Pick.refl _))
                            · intro Es
                              refine TO.move rfl rfl rfl rfl ?_
                              exact TO.done (X.ob rfl (Pick.refl _))
                            · intro Es
                              refine TO.fieldAddr0 rfl rfl rfl rfl TWLCsrRows.f33_3 ?_
                              exact TO.done (X.ob rfl (Pick.refl _))
                            · intro Es
                              refine TO.load1 rfl rfl rfl rfl TWLCsrRows.s30 (List.Mem.tail _ (List.Mem.tail _ (List.Mem.head _))) rfl ?_
                              exact TO.done (X.ob rfl (Pick.refl _))
                            · intro Es
                              refine TO.move rfl rfl rfl rfl ?_
                              exact TO.done (X.ob rfl (Pick.refl _))
                            · intro Es
                              refine TO.ixV hz44 hc42 hn41 g105 rfl rfl rfl rfl rfl TWLCsrRows.l30 TWLCsrRows.n3 ?_
                              exact TO.done (X.ob rfl (Pick.refl _))
                            · intro Es
                              refine TO.ldIV hz44 hc42 hn41 g105 rfl rfl rfl rfl TWLCsrRows.s3 (List.Mem.tail _ (List.Mem.tail _ (List.Mem.tail _ (List.Mem.head _)))) ?_
                              exact TO.done (X.ob rfl (Pick.refl _))
                            · intro Es
                              refine TO.bin rfl rfl rfl rfl rfl rfl ?_
                              exact TO.done (X.ob rfl (Pick.refl _))
                            · intro Es
                              refine TO.move rfl rfl rfl rfl ?_
                              refine TO.decB (t := 107) (b' := false) rfl (decide_eq_false g106) ?_
                              exact TO.done (X.ob2 rfl (Pick.refl _))
                            · intro Es
                              refine TO.shut rfl rfl rfl rfl ?_
                              exact TO.done (X.ob rfl (Pick.refl _))
                            · intro Es
                              refine TO.shut rfl rfl rfl rfl ?_
                              exact TO.done (X.ob rfl (Pick.refl _))
                            · intro Es
                              refine TO.shut rfl rfl rfl rfl ?_
                              exact TO.done (X.ob rfl (Pick.refl _))
                            · intro Es
                              refine TO.shut rfl rfl rfl rfl ?_
                              exact TO.done (X.ob rfl (Pick.refl _))
                            · intro Es
                              refine TO.shut rfl rfl rfl rfl ?_
                              exact TO.done (X.ob rfl (Pick.refl _))
                            · intro Es
                              refine TO.shut rfl rfl rfl rfl ?_
                              exact TO.done (X.ob rfl (Pick.refl _))
                            · intro Es
                              refine TO.shut rfl rfl rfl rfl ?_
                              exact TO.done (X.ob rfl (Pick.refl _))
                            · intro Es
                              refine TO.shut rfl rfl rfl rfl ?_
                              exact TO.done (X.ob rfl (Pick.refl _))
                            · intro Es
                              refine TO.shut rfl rfl rfl rfl ?_
                              exact TO.done (X.ob rfl (Pick.refl _))
                            · intro Es
                              refine TO.shut rfl rfl rfl rfl ?_
                              exact TO.done (X.ob rfl (Pick.refl _))
                            · intro Es
                              refine TO.shut rfl rfl rfl rfl ?_
                              exact TO.done (X.ob rfl (Pick.refl _))
                          refine TO.shut rfl rfl rfl rfl ?_
                          refine TO.pickF rfl rfl rfl rfl rfl ?_
                          refine TO.pickF rfl rfl rfl rfl rfl ?_
                          refine TO.done ?_
                          refine X.seq_normal ?_
                          refine T.trim (AllF.cons (t := 1) rfl (AllF.cons (t := 3) rfl (AllF.cons (t := 5) rfl (AllF.cons (t := 6) rfl (AllF.cons (t := 7) rfl (AllF.cons (t := 55) rfl (AllF.cons (t := 56) rfl (AllF.cons (t := 95) rfl (AllF.cons (t := 96) rfl (AllF.cons (t := 97) rfl (AllF.cons (t := 100) rfl (AllF.cons (t := 101) rfl (AllF.cons (t := 102) rfl (AllF.cons (t := 103) rfl (AllF.cons (t := 104) rfl (AllF.cons (t := 105) rfl (AllF.cons (t := 106) rfl (AllF.cons (t := 107) rfl (AllF.cons (t := 108) rfl (AllF.cons (t := 109) rfl (AllF.cons (t := 110) rfl (AllF.cons (t := 111) rfl (AllF.cons (t := 112) rfl (AllF.cons (t := 113) rfl (AllF.cons (t := 114) rfl (AllF.cons (t := 115) rfl (AllF.cons (t := 116) rfl (AllF.cons (t := 117) rfl (AllF.cons (t := 118) rfl (AllF.cons (t := 119) rfl (AllF.cons (t := 120) rfl (AllF.cons (t := 121) rfl AllF.nil)))))))))))))))))))))))))))))))) ?_
                          refine T.condF rfl rfl ?_
                          refine T.skip ?_
                          refine X.seq_normal ?_
                          obtain ⟨g116, H⟩ := gd_some H
                          obtain ⟨g117, H⟩ := gd_some H
                          obtain ⟨g118, H⟩ := gd_some H
                          obtain ⟨g119, H⟩ := gd_some H
                          refine T.regionL (ll := [0, 1, 2, 3, 4, 5, 6, 7, 8, 9, 10]) rfl ?_
                          refine TO.move rfl rfl rfl rfl ?_
                          refine TO.fieldAddr0 rfl rfl rfl rfl TWLCsrRows.f33_7 ?_
                          refine TO.load1 rfl rfl rfl rfl TWLCsrRows.s30 (List.Mem.tail _ (List.Mem.tail _ (List.Mem.head _))) rfl ?_
                          refine TO.move rfl rfl rfl rfl ?_
                          refine TO.ixV hz60 hc58 hn57 g116 rfl rfl rfl rfl rfl TWLCsrRows.l30 TWLCsrRows.n3 ?_
                          refine TO.ldIV hz60 hc58 hn57 g116 rfl rfl rfl rfl TWLCsrRows.s3 (List.Mem.tail _ (List.Mem.tail _ (List.Mem.tail _ (List.Mem.tail _ (List.Mem.tail _ (List.Mem.tail _ (List.Mem.tail _ (List.Mem.head _)))))))) ?_
                          refine TO.ix1 hn95 g117 rfl rfl rfl rfl rfl TWLCsrRows.l30 TWLCsrRows.n3 ?_
                          refine TO.ldIO g117 rfl rfl rfl rfl TWLCsrRows.s3 (List.Mem.tail _ (List.Mem.tail _ (List.Mem.tail _ (List.Mem.tail _ (List.Mem.tail _ (List.Mem.tail _ (List.Mem.tail _ (List.Mem.tail _ (List.Mem.tail _ (List.Mem.head _)))))))))) ?_
                          refine TO.addG g118 rfl rfl rfl rfl rfl ?_
                          refine TO.ix1 hn95 g119 rfl rfl rfl rfl rfl TWLCsrRows.l30 TWLCsrRows.n3 ?_
                          refine TO.stIO g119 rfl rfl rfl rfl (Take.tail (Take.tail (Take.tail (Take.tail (Take.tail (Take.tail (Take.tail (Take.tail (Take.tail (Take.head _ _)))))))))) TWLCsrRows.n3 ?_
                          refine TO.done ?_
                          refine X.block_normal ?_
                          refine X.seq_normal ?_
                          refine T.trim (AllF.cons (t := 1) rfl (AllF.cons (t := 3) rfl (AllF.cons (t := 5) rfl (AllF.cons (t := 6) rfl (AllF.cons (t := 7) rfl (AllF.cons (t := 55) rfl (AllF.cons (t := 56) rfl (AllF.cons (t := 95) rfl (AllF.cons (t := 96) rfl (AllF.cons (t := 97) rfl (AllF.cons (t := 100) rfl (AllF.cons (t := 101) rfl (AllF.cons (t := 102) rfl (AllF.cons (t := 103) rfl (AllF.cons (t := 104) rfl (AllF.cons (t := 105) rfl (AllF.cons (t := 106) rfl (AllF.cons (t := 107) rfl (AllF.cons (t := 108) rfl (AllF.cons (t := 109) rfl (AllF.cons (t := 110) rfl (AllF.cons (t := 111) rfl (AllF.cons (t := 112) rfl (AllF.cons (t := 113) rfl (AllF.cons (t := 114) rfl (AllF.cons (t := 115) rfl (AllF.cons (t := 116) rfl (AllF.cons (t := 117) rfl (AllF.cons (t := 118) rfl (AllF.cons (t := 119) rfl (AllF.cons (t := 120) rfl AllF.nil))))))))))))))))))))))))))))))) ?_
                          obtain ⟨g120, H⟩ := gd_some H
                          refine T.regionL (ll := [0, 1, 2]) rfl ?_
                          refine TO.move rfl rfl rfl rfl ?_
                          refine TO.addG g120 rfl rfl rfl rfl rfl ?_
                          refine TO.assign rfl rfl rfl rfl ?_
                          refine TO.done ?_
                          have H := loop_next H C_2
                          exact X.againE3 n_2 (xs94.set (r14.Arc.getD a96.toNat 0).toNat ((xs94.getD (r14.Arc.getD a96.toNat 0).toNat 0) + 1)) (a96 + 1) ⟨H, (List.length_set.trans hn95)⟩ (Nat.lt_succ_self _) (AllF.cons rfl (AllF.cons rfl (AllF.cons rfl (AllF.cons rfl (AllF.cons rfl (AllF.cons rfl (AllF.cons rfl AllF.nil))))))) (Pick.cons (Take.tail (Take.head _ _)) (Pick.cons (Take.tail (Take.head _ _)) (Pick.cons (Take.tail (Take.head _ _)) (Pick.cons (Take.tail (Take.head _ _)) (Pick.cons (Take.tail (Take.head _ _)) (Pick.cons (Take.tail (Take.head _ _)) (Pick.cons (Take.tail (Take.head _ _)) (Pick.cons (Take.tail (Take.head _ _)) (Pick.cons (Take.tail (Take.head _ _)) (Pick.cons (Take.head _ _) Pick.nil))))))))))
                  ·
                    refine T.condPF rfl g99 ?_
                    refine T.exit ?_
                    refine X.then_exit ?_
                    have H := loop_exitE H C_2 ▸ K_2
                    refine X.then_exit ?_
                    refine X.block_here ?_
                    refine X.block_normal ?_
                    exact X.metE1 xs94 ⟨H, hn95⟩ (AllF.cons rfl (AllF.cons rfl (AllF.cons rfl (AllF.cons rfl (AllF.cons rfl AllF.nil))))) (Pick.cons (Take.head _ _) (Pick.cons (Take.head _ _) (Pick.cons (Take.head _ _) (Pick.cons (Take.head _ _) (Pick.cons (Take.head _ _) (Pick.cons (Take.head _ _) (Pick.cons (Take.head _ _) (Pick.cons (Take.head _ _) (Pick.cons (Take.head _ _) (Pick.cons (Take.head _ _) Pick.nil))))))))))
              · rintro xs121 ⟨H, hn122⟩
                unfold m_acequialaw02_CsrRows_j3 at H
                obtain ⟨g123, H⟩ := gd_some H
                refine T.regionL (ll := [0, 1]) rfl ?_
                refine TO.addG g123 rfl rfl rfl rfl rfl ?_
                refine TO.move rfl rfl rfl rfl ?_
                refine TO.done ?_
                have H := loop_next H C_1
                exact X.againE3 n_1 xs121 (x87 + 1) ⟨H, hn122⟩ (Nat.lt_succ_self _) (AllF.cons rfl (AllF.cons rfl (AllF.cons rfl (AllF.cons rfl (AllF.cons rfl AllF.nil))))) (Pick.cons (Take.head _ _) (Pick.cons (Take.head _ _) (Pick.cons (Take.head _ _) (Pick.cons (Take.head _ _) (Pick.cons (Take.head _ _) (Pick.cons (Take.head _ _) (Pick.cons (Take.head _ _) (Pick.cons (Take.head _ _) (Pick.cons (Take.head _ _) (Pick.cons (Take.head _ _) Pick.nil))))))))))
            ·
              refine T.condPF rfl g88 ?_
              refine T.exit ?_
              refine X.then_exit ?_
              have H := loop_exitE H C_1 ▸ K_1
              refine X.then_exit ?_
              refine X.block_here ?_
              exact X.metE1 xs85 ⟨H, hn86⟩ (AllF.cons rfl (AllF.cons rfl (AllF.cons rfl AllF.nil))) (Pick.cons (Take.head _ _) (Pick.cons (Take.head _ _) (Pick.cons (Take.head _ _) (Pick.cons (Take.head _ _) (Pick.cons (Take.head _ _) (Pick.cons (Take.head _ _) (Pick.cons (Take.head _ _) (Pick.cons (Take.head _ _) (Pick.cons (Take.head _ _) (Pick.cons (Take.head _ _) Pick.nil))))))))))
          · rintro xs124 ⟨H, hn125⟩
            unfold m_acequialaw02_CsrRows_j4 at H
            refine T.seq ?_
            obtain ⟨r126, e127, H⟩ := bd_some H
            refine T.regionL (ll := [0, 1, 2, 3, 4, 5]) rfl ?_
            refine TO.loadA rfl rfl rfl rfl TWLCsrRows.a33 (List.Mem.tail _ (List.Mem.tail _ (List.Mem.head _))) rfl ?_
            refine TO.fieldAddr0 rfl rfl rfl rfl TWLCsrRows.f24_3 ?_
            refine TO.load1 rfl rfl rfl rfl TWLCsrRows.s22 (List.Mem.head _) rfl ?_
            refine TO.lenX (xs := r3.Arcs) hn9 rfl rfl rfl rfl rfl TWLCsrRows.l22 ?_
            refine TO.callX TWLCsrRows.c38 rfl rfl rfl rfl (fun wc hwc => w_csr_Forward (c0 := r14) (arcs1 := (r3.Arcs.length : Int)) wc (hwc.rs (f := (intC .i64)) (s := 1) (xs := r14.First) (j := j20) (fun _ => rfl) (List.Mem.tail _ (List.Mem.tail _ (List.Mem.tail _ (List.Mem.head _)))) hn41 hc42 hz44) (hwc.rs (f := (intC .i64)) (s := 1) (xs := r14.Head) (j := j24) (fun _ => rfl) (List.Mem.tail _ (List.Mem.tail _ (List.Mem.tail _ (List.Mem.tail _ (List.Mem.head _))))) hn45 hc46 hz48) (hwc.rs (f := (intC .i64)) (s := 1) (xs := r14.Rev) (j := j28) (fun _ => rfl) (List.Mem.tail _ (List.Mem.tail _ (List.Mem.tail _ (List.Mem.tail _ (List.Mem.tail _ (List.Mem.head _)))))) hn49 hc50 hz52) (hwc.rs (f := (intC .i64)) (s := 1) (xs := r14.Cap) (j := j32) (fun _ => rfl) (List.Mem.tail _ (List.Mem.tail _ (List.Mem.tail _ (List.Mem.tail _ (List.Mem.tail _ (List.Mem.tail _ (List.Mem.head _))))))) hn53 hc54 hz56) (hwc.rs (f := (intC .i64)) (s := 1) (xs := r14.Arc) (j := j36) (fun _ => rfl) (List.Mem.tail _ (List.Mem.tail _ (List.Mem.tail _ (List.Mem.tail _ (List.Mem.tail _ (List.Mem.tail _ (List.Mem.tail _ (List.Mem.head _)))))))) hn57 hc58 hz60) (hwc.rs (f := boolC) (s := 1) (xs := r14.Back) (j := j40) (fun _ => rfl) (List.Mem.tail _ (List.Mem.tail _ (List.Mem.tail _ (List.Mem.tail _ (List.Mem.tail _ (List.Mem.tail _ (List.Mem.tail _ (List.Mem.tail _ (List.Mem.head _))))))))) hn61 hc62 hz64) e127) ?_
            rintro _ _ ⟨ob128, n129, c130, j131, rfl, rfl, hn132, hc133, hj134, hz135⟩
            refine TO.assign rfl rfl rfl rfl ?_
            refine TO.done ?_
            refine X.seq_normal ?_
            refine T.seq ?_
            refine T.seq ?_
            refine T.regionL (ll := [0, 1, 2, 3, 4, 5]) rfl ?_
            refine TO.move rfl rfl rfl rfl ?_
            refine TO.lenX (xs := r126) hn132 rfl rfl rfl rfl rfl TWLCsrRows.l30 ?_
            refine TO.fieldAddr0 rfl rfl rfl rfl TWLCsrRows.f24_3 ?_
            refine TO.load1 rfl rfl rfl rfl TWLCsrRows.s22 (List.Mem.tail _ (List.Mem.head _)) rfl ?_
            refine TO.lenX (xs := r3.Arcs) hn9 rfl rfl rfl rfl rfl TWLCsrRows.l22 ?_
            refine TO.bin rfl rfl rfl rfl rfl rfl ?_
            refine TO.done ?_
            refine X.seq_normal ?_
            refine T.trim (AllF.cons (t := 1) rfl (AllF.cons (t := 3) rfl (AllF.cons (t := 5) rfl (AllF.cons (t := 10) rfl (AllF.cons (t := 143) rfl AllF.nil))))) ?_
            rcases ite_some H with ⟨g137, H⟩ | ⟨g137, H⟩
            ·
              refine T.condPT rfl g137 ?_
              refine T.seq ?_
              refine T.regionL (ll := [0]) rfl ?_
              refine TO.assign rfl rfl rfl rfl ?_
              refine TO.done ?_
              refine X.seq_normal ?_
              refine T.ret ?_
              refine X.then_ret ?_
              obtain rfl := ret1 H
              exact X.ret1 rfl rfl rfl rfl (Res.tmp rfl) Pick.nil ⟨rfl, rfl⟩
            ·
              refine T.condPF rfl g137 ?_
              refine T.skip ?_
              refine X.seq_normal ?_
              refine T.seq ?_
              refine T.seq ?_
              refine T.regionL (ll := [0, 1, 2, 3]) rfl ?_
              refine TO.fieldAddr0 rfl rfl rfl rfl TWLCsrRows.f24_3 ?_
              refine TO.load1 rfl rfl rfl rfl TWLCsrRows.s22 (List.Mem.tail _ (List.Mem.head _)) rfl ?_
              refine TO.lenX (xs := r3.Arcs) hn9 rfl rfl rfl rfl rfl TWLCsrRows.l22 ?_
              refine TO.move rfl rfl rfl rfl ?_
              refine TO.done ?_
              refine X.seq_normal ?_
              refine T.meetSE1 (fun (u158 : Unit) => m_acequialaw02_CsrRows_j7 = some r0) (fun (u158 : Unit) => []) (fun (u158 : Unit) => []) ?_ ?_
              ·
                refine T.block ?_
                obtain ⟨o_5, e_5, K_5⟩ := bd_some H
                refine T.loopE2 (fun (m_5 : Nat) (x138 : Int) => loopM (fun s => m_acequialaw02_CsrRows_s5 r3 r14 xs124 r126 s) m_5 x138 = some o_5) (fun (m_5 : Nat) (x138 : Int) => [(3, .pointer (some ⟨b71, 0, none⟩)), (5, .slice (some ⟨b83, 0, none⟩) ((r3.Arcs.length : Int).toNat) ((r3.Arcs.length : Int).toNat)), (10, .slice (sb ob128) n129 c130), (145, .slice (sb ob5) n6 c7), (146, .int .i64 (r3.Arcs.length : Int)), (147, .int .i64 x138)]) (fun (m_5 : Nat) (x138 : Int) => [(some b71, .cells #[.int .i64 r14.N, .int .i64 r14.S, .int .i64 r14.T, .slice (sb ob17) n18 c19, .slice (sb ob21) n22 c23, .slice (sb ob25) n26 c27, .slice (sb ob29) n30 c31, .slice (sb ob33) n34 c35, .slice (sb ob37) n38 c39] 33 (0, 0)), (ob17, .cells (arr (intC .i64) r14.First j20).toArray 3 (0, 0)), (ob21, .cells (arr (intC .i64) r14.Head j24).toArray 3 (0, 0)), (ob25, .cells (arr (intC .i64) r14.Rev j28).toArray 3 (0, 0)), (ob29, .cells (arr (intC .i64) r14.Cap j32).toArray 2 (0, 0)), (ob33, .cells (arr (intC .i64) r14.Arc j36).toArray 3 (0, 0)), (ob37, .cells (arr boolC r14.Back j40).toArray 4 (0, 0)), (some b83, .cells (arr (intC .i64) xs124 ([])).toArray 3 (0, 0)), (ob128, .cells (arr (intC .i64) r126 j131).toArray 3 (0, 0)), (ob5, .cells (arr arcC r3.Arcs j8).toArray 28 (0, 0))]) (fun (m_5 : Nat) (x138 : Int) => m_5) FUEL 0 e_5 (AllF.cons rfl (AllF.cons rfl (AllF.cons rfl (AllF.cons rfl (AllF.cons rfl (AllF.cons rfl AllF.nil)))))) (Pick.cons (Take.tail (Take.tail (Take.tail (Take.head _ _)))) (Pick.cons (Take.tail (Take.tail (Take.tail (Take.head _ _)))) (Pick.cons (Take.tail (Take.tail (Take.tail (Take.head _ _)))) (Pick.cons (Take.tail (Take.tail (Take.tail (Take.head _ _)))) (Pick.cons (Take.tail (Take.tail (Take.tail (Take.head _ _)))) (Pick.cons (Take.tail (Take.tail (Take.tail (Take.head _ _)))) (Pick.cons (Take.tail (Take.tail (Take.tail (Take.head _ _)))) (Pick.cons (Take.tail (Take.tail (Take.tail (Take.head _ _)))) (Pick.cons (Take.head _ _) (Pick.cons (Take.tail (Take.head _ _)) Pick.nil)))))))))) ?_
                rintro m_5 x138 H
                obtain ⟨n_5, r_5, rfl, H, C_5⟩ := loopM_some H
                have H : m_acequialaw02_CsrRows_s5 r3 r14 xs124 r126 x138 = some r_5 := H
                unfold m_acequialaw02_CsrRows_s5 at H
                refine T.seq ?_
                refine T.regionL (ll := [0]) rfl ?_
                refine TO.bin rfl rfl rfl rfl rfl rfl ?_
                refine TO.done ?_
                refine X.seq_normal ?_
                refine T.seq ?_
                rcases ite_some H with ⟨g139, H⟩ | ⟨g139, H⟩
                ·
                  refine T.condPT rfl g139 ?_
                  refine T.skip ?_
                  refine X.seq_normal ?_
                  refine T.seq ?_
                  refine T.block ?_
                  refine T.seq ?_
                  obtain ⟨g140, H⟩ := gd_some H
                  refine T.regionL (ll := [0, 1, 2, 3, 4, 5]) rfl ?_
                  refine TO.move rfl rfl rfl rfl ?_
                  refine TO.ixV hz12 hc10 hn9 g140 rfl rfl rfl rfl rfl TWLCsrRows.l22 TWLCsrRows.n28 ?_
                  refine TO.ldSV (f := arcC) (cs := [.int .i64 ((r3.Arcs.getD x138.toNat default).fr), .int .i64 ((r3.Arcs.getD x138.toNat default).to), .int .i64 ((r3.Arcs.getD x138.toNat default).cap)]) default (fun _ => rfl) hz12 hc10 hn9 g140 rfl rfl rfl rfl rfl TWLCsrRows.a28 (List.Mem.tail _ (List.Mem.tail _ (List.Mem.tail _ (List.Mem.tail _ (List.Mem.tail _ (List.Mem.tail _ (List.Mem.tail _ (List.Mem.tail _ (List.Mem.tail _ (List.Mem.head _)))))))))) ?_
                  refine TO.allocA rfl rfl rfl TWLCsrRows.z28 ?_; intro b141
                  refine TO.assign rfl rfl rfl rfl ?_
                  refine TO.storeA rfl rfl rfl rfl (Take.head _ _) TWLCsrRows.n28 rfl rfl rfl ?_
                  refine TO.done ?_
                  refine X.seq_normal ?_
                  refine T.seq ?_
                  refine T.regionL (ll := [0]) rfl ?_
                  refine TO.assign rfl rfl rfl rfl ?_
                  refine TO.done ?_
                  refine X.seq_normal ?_
                  refine T.seq ?_
                  refine T.seq ?_
                  refine T.regionL (ll := [0, 1, 2, 3, 4]) rfl ?_
                  refine TO.fieldAddr0 rfl rfl rfl rfl TWLCsrRows.f28_0 ?_
                  refine TO.load1 rfl rfl rfl rfl TWLCsrRows.s3 (List.Mem.head _) rfl ?_
                  refine TO.fieldAddr0 rfl rfl rfl rfl TWLCsrRows.f28_1 ?_
                  refine TO.load1 rfl rfl rfl rfl TWLCsrRows.s3 (List.Mem.head _) rfl ?_
                  refine TO.bin rfl rfl rfl rfl rfl rfl ?_
                  refine TO.done ?_
                  refine X.seq_normal ?_
                  refine T.trim (AllF.cons (t := 3) rfl (AllF.cons (t := 5) rfl (AllF.cons (t := 10) rfl (AllF.cons (t := 145) rfl (AllF.cons (t := 146) rfl (AllF.cons (t := 147) rfl (AllF.cons (t := 11) rfl (AllF.cons (t := 13) rfl (AllF.cons (t := 156) rfl AllF.nil))))))))) ?_
                  refine T.meetSE1 (fun (want144 : Int) => m_acequialaw02_CsrRows_j6 r14 xs124 r126 x138 want144 = some r_5) (fun (want144 : Int) => [(3, .pointer (some ⟨b71, 0, none⟩)), (5, .slice (some ⟨b83, 0, none⟩) ((r3.Arcs.length : Int).toNat) ((r3.Arcs.length : Int).toNat)), (10, .slice (sb ob128) n129 c130), (11, .int .i64 x138), (13, .int .i64 want144), (145, .slice (sb ob5) n6 c7), (146, .int .i64 (r3.Arcs.length : Int)), (147, .int .i64 x138)]) (fun (want144 : Int) => [(some b71, .cells #[.int .i64 r14.N, .int .i64 r14.S, .int .i64 r14.T, .slice (sb ob17) n18 c19, .slice (sb ob21) n22 c23, .slice (sb ob25) n26 c27, .slice (sb ob29) n30 c31, .slice (sb ob33) n34 c35, .slice (sb ob37) n38 c39] 33 (0, 0)), (ob17, .cells (arr (intC .i64) r14.First j20).toArray 3 (0, 0)), (ob21, .cells (arr (intC .i64) r14.Head j24).toArray 3 (0, 0)), (ob25, .cells (arr (intC .i64) r14.Rev j28).toArray 3 (0, 0)), (ob29, .cells (arr (intC .i64) r14.Cap j32).toArray 2 (0, 0)), (ob33, .cells (arr (intC .i64) r14.Arc j36).toArray 3 (0, 0)), (ob37, .cells (arr boolC r14.Back j40).toArray 4 (0, 0)), (some b83, .cells (arr (intC .i64) xs124 ([])).toArray 3 (0, 0)), (ob128, .cells (arr (intC .i64) r126 j131).toArray 3 (0, 0)), (ob5, .cells (arr arcC r3.Arcs j8).toArray 28 (0, 0))]) ?_ ?_
                  ·
                    rcases ite_some H with ⟨g143, H⟩ | ⟨g143, H⟩
                    ·
                      refine T.condPT rfl g143 ?_
                      refine T.regionL (ll := [0]) rfl ?_
                      refine TO.assign rfl rfl rfl rfl ?_
                      refine TO.done ?_
                      exact X.metE1 0 H (AllF.cons rfl (AllF.cons rfl (AllF.cons rfl (AllF.cons rfl (AllF.cons rfl (AllF.cons rfl (AllF.cons rfl (AllF.cons rfl AllF.nil)))))))) (Pick.cons (Take.tail (Take.head _ _)) (Pick.cons (Take.tail (Take.head _ _)) (Pick.cons (Take.tail (Take.head _ _)) (Pick.cons (Take.tail (Take.head _ _)) (Pick.cons (Take.tail (Take.head _ _)) (Pick.cons (Take.tail (Take.head _ _)) (Pick.cons (Take.tail (Take.head _ _)) (Pick.cons (Take.tail (Take.head _ _)) (Pick.cons (Take.tail (Take.head _ _)) (Pick.cons (Take.tail (Take.head _ _)) Pick.nil))))))))))
                    ·
                      refine T.condPF rfl g143 ?_
                      refine T.skip ?_
                      exact X.metE1 2 H (AllF.cons rfl (AllF.cons rfl (AllF.cons rfl (AllF.cons rfl (AllF.cons rfl (AllF.cons rfl (AllF.cons rfl (AllF.cons rfl AllF.nil)))))))) (Pick.cons (Take.tail (Take.head _ _)) (Pick.cons (Take.tail (Take.head _ _)) (Pick.cons (Take.tail (Take.head _ _)) (Pick.cons (Take.tail (Take.head _ _)) (Pick.cons (Take.tail (Take.head _ _)) (Pick.cons (Take.tail (Take.head _ _)) (Pick.cons (Take.tail (Take.head _ _)) (Pick.cons (Take.tail (Take.head _ _)) (Pick.cons (Take.tail (Take.head _ _)) (Pick.cons (Take.tail (Take.head _ _)) Pick.nil))))))))))
                  · rintro want144 H
                    unfold m_acequialaw02_CsrRows_j6 at H
                    refine T.seq ?_
                    obtain ⟨g145, H⟩ := gd_some H
                    rcases ite_some H with ⟨g146, H⟩ | ⟨g146, H⟩
                    ·
                      apply T.drawQT [(157, _), (158, _), (159, _), (160, _), (161, _), (162, _), (163, _), (164, _), (165, _), (166, _), (167, _), (168, _), (169, _), (170, _), (171, _), (172, _), (173, _), (174, _), (175, _), (176, _), (177, _), (178, _), (179, _), (180, _), (181, _), (182, _), (183, _), (184, _), (185, _), (186, _), (187, _), (188, _), (189, _), (190, _), (191, _), (192, _), (193, _)]
                      · exact mixed
                      · kernel_rfl
                      · kernel_rfl
                      · exact rfl
                      · exact rfl
                      · refine ⟨?_, ?_, ?_, ?_, ?_, ?_, ?_, ?_, ?_, ?_, ?_, ?_, ?_, ?_, ?_, ?_, ?_, ?_, ?_, ?_, ?_, ?_, ?_, ?_, ?_, ?_, ?_, ?_, ?_, ?_, ?_, ?_, ?_, ?_, ?_, ?_, ?_, trivial⟩
                        · intro Es
                          refine TO.move rfl rfl rfl rfl ?_
                          exact TO.done (X.ob rfl (Pick.refl _))
                        · intro Es
                          refine TO.move rfl rfl rfl rfl ?_
                          exact TO.done (X.ob rfl (Pick.refl _))
                        · intro Es
                          refine TO.ix1 hn125 g145 rfl rfl rfl rfl rfl TWLCsrRows.l30 TWLCsrRows.n3 ?_
                          exact TO.done (X.ob rfl (Pick.refl _))
                        · intro Es
                          refine TO.ldIO g145 rfl rfl rfl rfl TWLCsrRows.s3 (List.Mem.tail _ (List.Mem.tail _ (List.Mem.tail _ (List.Mem.tail _ (List.Mem.tail _ (List.Mem.tail _ (List.Mem.tail _ (List.Mem.head _)))))))) ?_
                          exact TO.done (X.ob rfl (Pick.refl _))
                        · intro Es
                          refine TO.move rfl rfl rfl rfl ?_
                          exact TO.done (X.ob rfl (Pick.refl _))
                        · intro Es
                          refine TO.bin rfl rfl rfl rfl rfl rfl ?_
                          exact TO.done (X.ob rfl (Pick.refl _))
                        · intro Es
                          refine TO.move rfl rfl rfl rfl ?_
                          refine TO.decB (t := 163) (b' := true) rfl (decide_eq_true g146) ?_
                          exact TO.done (X.ob2 rfl (Pick.refl _))
                        · intro Es
                          refine TO.shut rfl rfl rfl rfl ?_
                          exact TO.done (X.ob rfl (Pick.refl _))
                        · intro Es
                          refine TO.shut rfl rfl rfl rfl ?_
                          exact TO.done (X.ob rfl (Pick.refl _))
                        · intro Es
                          refine TO.shut rfl rfl rfl rfl ?_
                          exact TO.done (X.ob rfl (Pick.refl _))
                        · intro Es
                          refine TO.shut rfl rfl rfl rfl ?_
                          exact TO.done (X.ob rfl (Pick.refl _))
                        · intro Es
                          refine TO.shut rfl rfl rfl rfl ?_
                          exact TO.done (X.ob rfl (Pick.refl _))
                        · intro Es
                          refine TO.shut rfl rfl rfl rfl ?_
                          exact TO.done (X.ob rfl (Pick.refl _))
                        · intro Es
                          refine TO.shut rfl rfl rfl rfl ?_
                          exact TO.done (X.ob rfl (Pick.refl _))
                        · intro Es
                          refine TO.shut rfl rfl rfl rfl ?_
                          exact TO.done (X.ob rfl (Pick.refl _))
                        · intro Es
                          refine TO.pickT rfl rfl rfl rfl rfl ?_
                          exact TO.done (X.ob rfl (Pick.refl _))
                        · intro Es
                          refine TO.move rfl rfl rfl rfl ?_
                          exact TO.done (X.ob rfl (Pick.refl _))
                        · intro Es
                          refine TO.shut rfl rfl rfl rfl ?_
                          exact TO.done (X.ob rfl (Pick.refl _))
                        · intro Es
                          refine TO.shut rfl rfl rfl rfl ?_
                          exact TO.done (X.ob rfl (Pick.refl _))
                        · intro Es
                          refine TO.shut rfl rfl rfl rfl ?_
                          exact TO.done (X.ob rfl (Pick.refl _))
                        · intro Es
                          refine TO.shutU rfl rfl rfl rfl ?_
                          exact TO.done (X.ob rfl (Pick.refl _))
                        · intro Es
                          refine TO.shutU rfl rfl rfl rfl ?_
                          exact TO.done (X.ob rfl (Pick.refl _))
                        · intro Es
                          refine TO.shutU rfl rfl rfl rfl ?_
                          exact TO.done (X.ob rfl (Pick.refl _))
                        · intro Es
                          refine TO.shutU rfl rfl rfl rfl ?_
                          exact TO.done (X.ob rfl (Pick.refl _))
                        · intro Es
                          refine TO.shutU rfl rfl rfl rfl ?_
                          exact TO.done (X.ob rfl (Pick.refl _))
                        · intro Es
                          refine TO.shutU rfl rfl rfl rfl ?_
                          exact TO.done (X.ob rfl (Pick.refl _))
                        · intro Es
                          refine TO.shutU rfl rfl rfl rfl ?_
                          exact TO.done (X.ob rfl (Pick.refl _))
                        · intro Es
                          refine TO.shutU rfl rfl rfl rfl ?_
                          exact TO.done (X.ob rfl (Pick.refl _))
                        · intro Es
                          refine TO.shutU rfl rfl rfl rfl ?_
                          exact TO.done (X.ob rfl (Pick.refl _))
                        · intro Es
                          refine TO.shutU rfl rfl rfl rfl ?_
                          exact TO.done (X.ob rfl (Pick.refl _))
                        · intro Es
                          refine TO.shutU rfl rfl rfl rfl ?_
                          exact TO.done (X.ob rfl (Pick.refl _))
                        · intro Es
                          refine TO.shutU rfl rfl rfl rfl ?_
                          exact TO.done (X.ob rfl (Pick.refl _))
                        · intro Es
                          refine TO.shutU rfl rfl rfl rfl ?_
                          exact TO.done (X.ob rfl (Pick.refl _))
                        · intro Es
                          refine TO.shutU rfl rfl rfl rfl ?_
                          exact TO.done (X.ob rfl (Pick.refl _))
                        · intro Es
                          refine TO.shutU rfl rfl rfl rfl ?_
                          exact TO.done (X.ob rfl (Pick.refl _))
                        · intro Es
                          refine TO.shutU rfl rfl rfl rfl ?_
                          exact TO.done (X.ob rfl (Pick.refl _))
                        · intro Es
                          refine TO.shutU rfl rfl rfl rfl ?_
                          exact TO.done (X.ob rfl (Pick.refl _))
                      refine TO.shutU rfl rfl rfl rfl ?_
                      refine TO.shutU rfl rfl rfl rfl ?_
                      refine TO.shutU rfl rfl rfl rfl ?_
                      refine TO.shut rfl rfl rfl rfl ?_
                      refine TO.pickT rfl rfl rfl rfl rfl ?_
                      refine TO.done ?_
                      refine X.seq_normal ?_
                      refine T.trim (AllF.cons (t := 3) rfl (AllF.cons (t := 5) rfl (AllF.cons (t := 10) rfl (AllF.cons (t := 145) rfl (AllF.cons (t := 146) rfl (AllF.cons (t := 147) rfl (AllF.cons (t := 164) rfl (AllF.cons (t := 165) rfl (AllF.cons (t := 166) rfl (AllF.cons (t := 167) rfl (AllF.cons (t := 168) rfl (AllF.cons (t := 169) rfl (AllF.cons (t := 170) rfl (AllF.cons (t := 171) rfl (AllF.cons (t := 174) rfl (AllF.cons (t := 175) rfl (AllF.cons (t := 176) rfl (AllF.cons (t := 177) rfl (AllF.cons (t := 178) rfl (AllF.cons (t := 179) rfl (AllF.cons (t := 180) rfl (AllF.cons (t := 181) rfl (AllF.cons (t := 182) rfl (AllF.cons (t := 183) rfl (AllF.cons (t := 184) rfl (AllF.cons (t := 185) rfl (AllF.cons (t := 186) rfl (AllF.cons (t := 187) rfl (AllF.cons (t := 188) rfl (AllF.cons (t := 189) rfl (AllF.cons (t := 190) rfl (AllF.cons (t := 191) rfl (AllF.cons (t := 192) rfl (AllF.cons (t := 193) rfl (AllF.cons (t := 194) rfl (AllF.cons (t := 195) rfl (AllF.cons (t := 196) rfl (AllF.cons (t := 197) rfl (AllF.cons (t := 198) rfl AllF.nil))))))))))))))))))))))))))))))))))))))) ?_
                      refine T.condT rfl rfl ?_
                      refine T.seq ?_
                      refine T.regionL (ll := [0]) rfl ?_
                      refine TO.assign rfl rfl rfl rfl ?_
                      refine TO.done ?_
                      refine X.seq_normal ?_
                      refine T.trim (AllF.cons (t := 2) rfl AllF.nil) ?_
                      refine T.ret ?_
                      refine X.block_ret ?_
                      refine X.then_ret ?_
                      have H := loop_exitE H C_5 ▸ K_5
                      refine X.then_ret ?_
                      refine X.block_ret ?_
                      refine X.then_ret ?_
                      obtain rfl := ret1 H
                      exact X.ret1 rfl rfl rfl rfl (Res.tmp rfl) Pick.nil ⟨rfl, rfl⟩
                    ·
                      obtain ⟨g147, H⟩ := gd_some H
                      rcases ite_some H with ⟨g148, H⟩ | ⟨g148, H⟩
                      ·
                        apply T.drawQT [(157, _), (158, _), (159, _), (160, _), (161, _), (162, _), (163, _), (164, _), (165, _), (166, _), (167, _), (168, _), (169, _), (170, _), (171, _), (172, _), (173, _), (174, _), (175, _), (176, _), (177, _), (178, _), (179, _), (180, _), (181, _), (182, _), (183, _), (184, _), (185, _), (186, _), (187, _), (188, _), (189, _), (190, _), (191, _), (192, _), (193, _)]
                        · exact mixed
                        · kernel_rfl
                        · kernel_rfl
                        · exact rfl
                        · exact rfl
                        · refine ⟨?_, ?_, ?_, ?_, ?_, ?_, ?_, ?_, ?_, ?_, ?_, ?_, ?_, ?_, ?_, ?_, ?_, ?_, ?_, ?_, ?_, ?_, ?_, ?_, ?_, ?_, ?_, ?_, ?_, ?_, ?_, ?_, ?_, ?_, ?_, ?_, ?_, trivial⟩
                          · intro Es
                            refine TO.move rfl rfl rfl rfl ?_
                            exact TO.done (X.ob rfl (Pick.refl _))
                          · intro Es
                            refine TO.move rfl rfl rfl rfl ?_
                            exact TO.done (X.ob rfl (Pick.refl _))
                          · intro Es
                            refine TO.ix1 hn125 g145 rfl rfl rfl rfl rfl TWLCsrRows.l30 TWLCsrRows.n3 ?_
                            exact TO.done (X.ob rfl (Pick.refl _))
                          · intro Es
                            refine TO.ldIO g145 rfl rfl rfl rfl TWLCsrRows.s3 (List.Mem.tail _ (List.Mem.tail _ (List.Mem.tail _ (List.Mem.tail _ (List.Mem.tail _ (List.Mem.tail _ (List.Mem.tail _ (List.Mem.head _)))))))) ?_
                            exact TO.done (X.ob rfl (Pick.refl _))
                          · intro Es
                            refine TO.move rfl rfl rfl rfl ?_
                            exact TO.done (X.ob rfl (Pick.refl _))
                          · intro Es
                            refine TO.bin rfl rfl rfl rfl rfl rfl ?_
                            exact TO.done (X.ob rfl (Pick.refl _))
                          · intro Es
                            refine TO.move rfl rfl rfl rfl ?_
                            refine TO.decB (t := 163) (b' := false) rfl (decide_eq_false g146) ?_
                            exact TO.done (X.ob2 rfl (Pick.refl _))
                          · intro Es
                            refine TO.move rfl rfl rfl rfl ?_
                            exact TO.done (X.ob rfl (Pick.refl _))
                          · intro Es
                            refine TO.move rfl rfl rfl rfl ?_
                            exact TO.done (X.ob rfl (Pick.refl _))
                          · intro Es
                            refine TO.ixV hz135 hc133 hn132 g147 rfl rfl rfl rfl rfl TWLCsrRows.l30 TWLCsrRows.n3 ?_
                            exact TO.done (X.ob rfl (Pick.refl _))
                          · intro Es
                            refine TO.ldIV hz135 hc133 hn132 g147 rfl rfl rfl rfl TWLCsrRows.s3 (List.Mem.tail _ (List.Mem.tail _ (List.Mem.tail _ (List.Mem.tail _ (List.Mem.tail _ (List.Mem.tail _ (List.Mem.tail _ (List.Mem.tail _ (List.Mem.head _))))))))) ?_
                            exact TO.done (X.ob rfl (Pick.refl _))
                          · intro Es
                            refine TO.bin rfl rfl rfl rfl rfl rfl ?_
                            exact TO.done (X.ob rfl (Pick.refl _))
                          · intro Es
                            refine TO.move rfl rfl rfl rfl ?_
                            exact TO.done (X.ob rfl (Pick.refl _))
                          · intro Es
                            refine TO.bin rfl rfl rfl rfl rfl rfl ?_
                            exact TO.done (X.ob rfl (Pick.refl _))
                          · intro Es
                            refine TO.neb rfl rfl rfl rfl rfl TWLCsrRows.u4 ?_
                            exact TO.done (X.ob rfl (Pick.refl _))
                          · intro Es
                            refine TO.pickF rfl rfl rfl rfl rfl ?_
                            exact TO.done (X.ob rfl (Pick.refl _))
                          · intro Es
                            refine TO.move rfl rfl rfl rfl ?_
                            refine TO.decB (t := 173) (b' := true) rfl g148 ?_
                            exact TO.done (X.ob2 rfl (Pick.refl _))
                          · intro Es
                            refine TO.shut rfl rfl rfl rfl ?_
                            exact TO.done (X.ob rfl (Pick.refl _))
                          · intro Es
                            refine TO.shut rfl rfl rfl rfl ?_
                            exact TO.done (X.ob rfl (Pick.refl _))
                          · intro Es
                            refine TO.shut rfl rfl rfl rfl ?_
                            exact TO.done (X.ob rfl (Pick.refl _))
                          · intro Es
                            refine TO.shutU rfl rfl rfl rfl ?_
                            exact TO.done (X.ob rfl (Pick.refl _))
                          · intro Es
                            refine TO.shutU rfl rfl rfl rfl ?_
                            exact TO.done (X.ob rfl (Pick.refl _))
                          · intro Es
                            refine TO.shutU rfl rfl rfl rfl ?_
                            exact TO.done (X.ob rfl (Pick.refl _))
                          · intro Es
                            refine TO.shutU rfl rfl rfl rfl ?_
                            exact TO.done (X.ob rfl (Pick.refl _))
                          · intro Es
                            refine TO.shutU rfl rfl rfl rfl ?_
                            exact TO.done (X.ob rfl (Pick.refl _))
                          · intro Es
                            refine TO.shutU rfl rfl rfl rfl ?_
                            exact TO.done (X.ob rfl (Pick.refl _))
                          · intro Es
                            refine TO.shutU rfl rfl rfl rfl ?_
                            exact TO.done (X.ob rfl (Pick.refl _))
                          · intro Es
                            refine TO.shutU rfl rfl rfl rfl ?_
                            exact TO.done (X.ob rfl (Pick.refl _))
                          · intro Es
                            refine TO.shutU rfl rfl rfl rfl ?_
                            exact TO.done (X.ob rfl (Pick.refl _))
                          · intro Es
                            refine TO.shutU rfl rfl rfl rfl ?_
                            exact TO.done (X.ob rfl (Pick.refl _))
                          · intro Es
                            refine TO.shutU rfl rfl rfl rfl ?_
                            exact TO.done (X.ob rfl (Pick.refl _))
                          · intro Es
                            refine TO.shutU rfl rfl rfl rfl ?_
                            exact TO.done (X.ob rfl (Pick.refl _))
                          · intro Es
                            refine TO.shutU rfl rfl rfl rfl ?_
                            exact TO.done (X.ob rfl (Pick.refl _))
                          · intro Es
                            refine TO.shutU rfl rfl rfl rfl ?_
                            exact TO.done (X.ob rfl (Pick.refl _))
                          · intro Es
                            refine TO.shutU rfl rfl rfl rfl ?_
                            exact TO.done (X.ob rfl (Pick.refl _))
                          · intro Es
                            refine TO.shutU rfl rfl rfl rfl ?_
                            exact TO.done (X.ob rfl (Pick.refl _))
                          · intro Es
                            refine TO.shutU rfl rfl rfl rfl ?_
                            exact TO.done (X.ob rfl (Pick.refl _))
                        refine TO.shutU rfl rfl rfl rfl ?_
                        refine TO.shutU rfl rfl rfl rfl ?_
                        refine TO.shutU rfl rfl rfl rfl ?_
                        refine TO.shut rfl rfl rfl rfl ?_
                        refine TO.pickT rfl rfl rfl rfl rfl ?_
                        refine TO.done ?_
                        refine X.seq_normal ?_
                        refine T.trim (AllF.cons (t := 3) rfl (AllF.cons (t := 5) rfl (AllF.cons (t := 10) rfl (AllF.cons (t := 145) rfl (AllF.cons (t := 146) rfl (AllF.cons (t := 147) rfl (AllF.cons (t := 164) rfl (AllF.cons (t := 165) rfl (AllF.cons (t := 166) rfl (AllF.cons (t := 167) rfl (AllF.cons (t := 168) rfl (AllF.cons (t := 169) rfl (AllF.cons (t := 170) rfl (AllF.cons (t := 171) rfl (AllF.cons (t := 174) rfl (AllF.cons (t := 175) rfl (AllF.cons (t := 176) rfl (AllF.cons (t := 177) rfl (AllF.cons (t := 178) rfl (AllF.cons (t := 179) rfl (AllF.cons (t := 180) rfl (AllF.cons (t := 181) rfl (AllF.cons (t := 182) rfl (AllF.cons (t := 183) rfl (AllF.cons (t := 184) rfl (AllF.cons (t := 185) rfl (AllF.cons (t := 186) rfl (AllF.cons (t := 187) rfl (AllF.cons (t := 188) rfl (AllF.cons (t := 189) rfl (AllF.cons (t := 190) rfl (AllF.cons (t := 191) rfl (AllF.cons (t := 192) rfl (AllF.cons (t := 193) rfl (AllF.cons (t := 194) rfl (AllF.cons (t := 195) rfl (AllF.cons (t := 196) rfl (AllF.cons (t := 197) rfl (AllF.cons (t := 198) rfl AllF.nil))))))))))))))))))))))))))))))))))))))) ?_
                        refine T.condT rfl rfl ?_
                        refine T.seq ?_
                        refine T.regionL (ll := [0]) rfl ?_
                        refine TO.assign rfl rfl rfl rfl ?_
                        refine TO.done ?_
                        refine X.seq_normal ?_
                        refine T.trim (AllF.cons (t := 2) rfl AllF.nil) ?_
                        refine T.ret ?_
                        refine X.block_ret ?_
                        refine X.then_ret ?_
                        have H := loop_exitE H C_5 ▸ K_5
                        refine X.then_ret ?_
                        refine X.block_ret ?_
                        refine X.then_ret ?_
                        obtain rfl := ret1 H
                        exact X.ret1 rfl rfl rfl rfl (Res.tmp rfl) Pick.nil ⟨rfl, rfl⟩
                      ·
                        rcases ite_some H with ⟨g149, H⟩ | ⟨g149, H⟩
                        ·
                          obtain ⟨g150, H⟩ := gd_some H
                          obtain ⟨g151, H⟩ := gd_some H
                          rcases ite_some H with ⟨g152, H⟩ | ⟨g152, H⟩
                          ·
                            apply T.drawQT [(157, _), (158, _), (159, _), (160, _), (161, _), (162, _), (163, _), (164, _), (165, _), (166, _), (167, _), (168, _), (169, _), (170, _), (171, _), (172, _), (173, _), (174, _), (175, _), (176, _), (177, _), (178, _), (179, _), (180, _), (181, _), (182, _), (183, _), (184, _), (185, _), (186, _), (187, _), (188, _), (189, _), (190, _), (191, _), (192, _), (193, _)]
                            · exact mixed
                            · kernel_rfl
                            · kernel_rfl
                            · exact rfl
                            · exact rfl
                            · refine ⟨?_, ?_, ?_, ?_, ?_, ?_, ?_, ?_, ?_, ?_, ?_, ?_, ?_, ?_, ?_, ?_, ?_, ?_, ?_, ?_, ?_, ?_, ?_, ?_, ?_, ?_, ?_, ?_, ?_, ?_, ?_, ?_, ?_, ?_, ?_, ?_, ?_, trivial⟩
                              · intro Es
                                refine TO.move rfl rfl rfl rfl ?_
                                exact TO.done (X.ob rfl (Pick.refl _))
                              · intro Es
                                refine TO.move rfl rfl rfl rfl ?_
                                exact TO.done (X.ob rfl (Pick.refl _))
                              · intro Es
                                refine TO.ix1 hn125 g145 rfl rfl rfl rfl rfl TWLCsrRows.l30 TWLCsrRows.n3 ?_
                                exact TO.done (X.ob rfl (Pick.refl _))
                              · intro Es
                                refine TO.ldIO g145 rfl rfl rfl rfl TWLCsrRows.s3 (List.Mem.tail _ (List.Mem.tail _ (List.Mem.tail _ (List.Mem.tail _ (List.Mem.tail _ (List.Mem.tail _ (List.Mem.tail _ (List.Mem.head _)))))))) ?_
                                exact TO.done (X.ob rfl (Pick.refl _))
                              · intro Es
                                refine TO.move rfl rfl rfl rfl ?_
                                exact TO.done (X.ob rfl (Pick.refl _))
                              · intro Es
                                refine TO.bin rfl rfl rfl rfl rfl rfl ?_
                                exact TO.done (X.ob rfl (Pick.refl _))
                              · intro Es
                                refine TO.move rfl rfl rfl rfl ?_
                                refine TO.decB (t := 163) (b' := false) rfl (decide_eq_false g146) ?_
                                exact TO.done (X.ob2 rfl (Pick.refl _))
                              · intro Es
                                refine TO.move rfl rfl rfl rfl ?_
                                exact TO.done (X.ob rfl (Pick.refl _))
                              · intro Es
                                refine TO.move rfl rfl rfl rfl ?_
                                exact TO.done (X.ob rfl (Pick.refl _))
                              · intro Es
                                refine TO.ixV hz135 hc133 hn132 g147 rfl rfl rfl rfl rfl TWLCsrRows.l30 TWLCsrRows.n3 ?_
                                exact TO.done (X.ob rfl (Pick.refl _))
                              · intro Es
                                refine TO.ldIV hz135 hc133 hn132 g147 rfl rfl rfl rfl TWLCsrRows.s3 (List.Mem.tail _ (List.Mem.tail _ (List.Mem.tail _ (List.Mem.tail _ (List.Mem.tail _ (List.Mem.tail _ (List.Mem.tail _ (List.Mem.tail _ (List.Mem.head _))))))))) ?_
                                exact TO.done (X.ob rfl (Pick.refl _))
                              · intro Es
                                refine TO.bin rfl rfl rfl rfl rfl rfl ?_
                                exact TO.done (X.ob rfl (Pick.refl _))
                              · intro Es
                                refine TO.move rfl rfl rfl rfl ?_
                                exact TO.done (X.ob rfl (Pick.refl _))
                              · intro Es
                                refine TO.bin rfl rfl rfl rfl rfl rfl ?_
                                exact TO.done (X.ob rfl (Pick.refl _))
                              · intro Es
                                refine TO.neb rfl rfl rfl rfl rfl TWLCsrRows.u4 ?_
                                exact TO.done (X.ob rfl (Pick.refl _))
                              · intro Es
                                refine TO.pickF rfl rfl rfl rfl rfl ?_
                                exact TO.done (X.ob rfl (Pick.refl _))
                              · intro Es
                                refine TO.move rfl rfl rfl rfl ?_
                                refine TO.decB (t := 173) (b' := false) rfl (Bool.eq_false_iff.2 g148) ?_
                                exact TO.done (X.ob2 rfl (Pick.refl _))
                              · intro Es
                                refine TO.move rfl rfl rfl rfl ?_
                                exact TO.done (X.ob rfl (Pick.refl _))
                              · intro Es
                                refine TO.bin rfl rfl rfl rfl rfl rfl ?_
                                exact TO.done (X.ob rfl (Pick.refl _))
                              · intro Es
                                refine TO.move rfl rfl rfl rfl ?_
                                refine TO.decB (t := 176) (b' := true) rfl (decide_eq_true g149) ?_
                                exact TO.done (X.ob2 rfl (Pick.refl _))
                              · intro Es
                                refine TO.fieldAddr0 rfl rfl rfl rfl TWLCsrRows.f33_7 ?_
                                exact TO.done (X.ob rfl (Pick.refl _))
                              · intro Es
                                refine TO.load1 rfl rfl rfl rfl TWLCsrRows.s30 (List.Mem.head _) rfl ?_
                                exact TO.done (X.ob rfl (Pick.refl _))
                              · intro Es
                                refine TO.move rfl rfl rfl rfl ?_
                                exact TO.done (X.ob rfl (Pick.refl _))
                              · intro Es
                                refine TO.move rfl rfl rfl rfl ?_
                                exact TO.done (X.ob rfl (Pick.refl _))
                              · intro Es
                                refine TO.ixV hz135 hc133 hn132 g150 rfl rfl rfl rfl rfl TWLCsrRows.l30 TWLCsrRows.n3 ?_
                                exact TO.done (X.ob rfl (Pick.refl _))
                              · intro Es
                                refine TO.ldIV hz135 hc133 hn132 g150 rfl rfl rfl rfl TWLCsrRows.s3 (List.Mem.tail _ (List.Mem.tail _ (List.Mem.tail _ (List.Mem.tail _ (List.Mem.tail _ (List.Mem.tail _ (List.Mem.tail _ (List.Mem.tail _ (List.Mem.head _))))))))) ?_
                                exact TO.done (X.ob rfl (Pick.refl _))
                              · intro Es
                                refine TO.ixV hz60 hc58 hn57 g151 rfl rfl rfl rfl rfl TWLCsrRows.l30 TWLCsrRows.n3 ?_
                                exact TO.done (X.ob rfl (Pick.refl _))
                              · intro Es
                                refine TO.ldIV hz60 hc58 hn57 g151 rfl rfl rfl rfl TWLCsrRows.s3 (List.Mem.tail _ (List.Mem.tail _ (List.Mem.tail _ (List.Mem.tail _ (List.Mem.tail _ (List.Mem.head _)))))) ?_
                                exact TO.done (X.ob rfl (Pick.refl _))
                              · intro Es
                                refine TO.move rfl rfl rfl rfl ?_
                                exact TO.done (X.ob rfl (Pick.refl _))
                              · intro Es
                                refine TO.bin rfl rfl rfl rfl rfl rfl ?_
                                exact TO.done (X.ob rfl (Pick.refl _))
                              · intro Es
                                refine TO.move rfl rfl rfl rfl ?_
                                refine TO.decB (t := 187) (b' := true) rfl (decide_eq_true g152) ?_
                                exact TO.done (X.ob2 rfl (Pick.refl _))
                              · intro Es
                                refine TO.shut rfl rfl rfl rfl ?_
                                exact TO.done (X.ob rfl (Pick.refl _))
                              · intro Es
                                refine TO.shut rfl rfl rfl rfl ?_
                                exact TO.done (X.ob rfl (Pick.refl _))
                              · intro Es
                                refine TO.shut rfl rfl rfl rfl ?_
                                exact TO.done (X.ob rfl (Pick.refl _))
                              · intro Es
                                refine TO.shut rfl rfl rfl rfl ?_
                                exact TO.done (X.ob rfl (Pick.refl _))
                              · intro Es
                                refine TO.shut rfl rfl rfl rfl ?_
                                exact TO.done (X.ob rfl (Pick.refl _))
                              · intro Es
                                refine TO.shut rfl rfl rfl rfl ?_
                                exact TO.done (X.ob rfl (Pick.refl _))
                            refine TO.shut rfl rfl rfl rfl ?_
                            refine TO.shut rfl rfl rfl rfl ?_
                            refine TO.pickT rfl rfl rfl rfl rfl ?_
                            refine TO.pickT rfl rfl rfl rfl rfl ?_
                            refine TO.pickF rfl rfl rfl rfl rfl ?_
                            refine TO.done ?_
                            refine X.seq_normal ?_
                            refine T.trim (AllF.cons (t := 3) rfl (AllF.cons (t := 5) rfl (AllF.cons (t := 10) rfl (AllF.cons (t := 145) rfl (AllF.cons (t := 146) rfl (AllF.cons (t := 147) rfl (AllF.cons (t := 164) rfl (AllF.cons (t := 165) rfl (AllF.cons (t := 166) rfl (AllF.cons (t := 167) rfl (AllF.cons (t := 168) rfl (AllF.cons (t := 169) rfl (AllF.cons (t := 170) rfl (AllF.cons (t := 171) rfl (AllF.cons (t := 174) rfl (AllF.cons (t := 175) rfl (AllF.cons (t := 176) rfl (AllF.cons (t := 177) rfl (AllF.cons (t := 178) rfl (AllF.cons (t := 179) rfl (AllF.cons (t := 180) rfl (AllF.cons (t := 181) rfl (AllF.cons (t := 182) rfl (AllF.cons (t := 183) rfl (AllF.cons (t := 184) rfl (AllF.cons (t := 185) rfl (AllF.cons (t := 186) rfl (AllF.cons (t := 187) rfl (AllF.cons (t := 188) rfl (AllF.cons (t := 189) rfl (AllF.cons (t := 190) rfl (AllF.cons (t := 191) rfl (AllF.cons (t := 192) rfl (AllF.cons (t := 193) rfl (AllF.cons (t := 194) rfl (AllF.cons (t := 195) rfl (AllF.cons (t := 196) rfl (AllF.cons (t := 197) rfl (AllF.cons (t := 198) rfl AllF.nil))))))))))))))))))))))))))))))))))))))) ?_
                            refine T.condT rfl rfl ?_
                            refine T.seq ?_
                            refine T.regionL (ll := [0]) rfl ?_
                            refine TO.assign rfl rfl rfl rfl ?_
                            refine TO.done ?_
                            refine X.seq_normal ?_
                            refine T.trim (AllF.cons (t := 2) rfl AllF.nil) ?_
                            refine T.ret ?_
                            refine X.block_ret ?_
                            refine X.then_ret ?_
                            have H := loop_exitE H C_5 ▸ K_5
                            refine X.then_ret ?_
                            refine X.block_ret ?_
                            refine X.then_ret ?_
                            obtain rfl := ret1 H
                            exact X.ret1 rfl rfl rfl rfl (Res.tmp rfl) Pick.nil ⟨rfl, rfl⟩
                          ·
                            obtain ⟨g153, H⟩ := gd_some H
                            obtain ⟨g154, H⟩ := gd_some H
                            apply T.drawQT [(157, _), (158, _), (159, _), (160, _), (161, _), (162, _), (163, _), (164, _), (165, _), (166, _), (167, _), (168, _), (169, _), (170, _), (171, _), (172, _), (173, _), (174, _), (175, _), (176, _), (177, _), (178, _), (179, _), (180, _), (181, _), (182, _), (183, _), (184, _), (185, _), (186, _), (187, _), (188, _), (189, _), (190, _), (191, _), (192, _), (193, _)]
                            · exact mixed
                            · kernel_rfl
                            · kernel_rfl
                            · exact rfl
                            · exact rfl
                            · refine ⟨?_, ?_, ?_, ?_, ?_, ?_, ?_, ?_, ?_, ?_, ?_, ?_, ?_, ?_, ?_, ?_, ?_, ?_, ?_, ?_, ?_, ?_, ?_, ?_, ?_, ?_, ?_, ?_, ?_, ?_, ?_, ?_, ?_, ?_, ?_, ?_, ?_, trivial⟩
                              · intro Es
                                refine TO.move rfl rfl rfl rfl ?_
                                exact TO.done (X.ob rfl (Pick.refl _))
                              · intro Es
                                refine TO.move rfl rfl rfl rfl ?_
                                exact TO.done (X.ob rfl (Pick.refl _))
                              · intro Es
                                refine TO.ix1 hn125 g145 rfl rfl rfl rfl rfl TWLCsrRows.l30 TWLCsrRows.n3 ?_
                                exact TO.done (X.ob rfl (Pick.refl _))
                              · intro Es
                                refine TO.ldIO g145 rfl rfl rfl rfl TWLCsrRows.s3 (List.Mem.tail _ (List.Mem.tail _ (List.Mem.tail _ (List.Mem.tail _ (List.Mem.tail _ (List.Mem.tail _ (List.Mem.tail _ (List.Mem.head _)))))))) ?_
                                exact TO.done (X.ob rfl (Pick.refl _))
                              · intro Es
                                refine TO.move rfl rfl rfl rfl ?_
                                exact TO.done (X.ob rfl (Pick.refl _))
                              · intro Es
                                refine TO.bin rfl rfl rfl rfl rfl rfl ?_
                                exact TO.done (X.ob rfl (Pick.refl _))
                              · intro Es
                                refine TO.move rfl rfl rfl rfl ?_
                                refine TO.decB (t := 163) (b' := false) rfl (decide_eq_false g146) ?_
                                exact TO.done (X.ob2 rfl (Pick.refl _))
                              · intro Es
                                refine TO.move rfl rfl rfl rfl ?_
                                exact TO.done (X.ob rfl (Pick.refl _))
                              · intro Es
                                refine TO.move rfl rfl rfl rfl ?_
                                exact TO.done (X.ob rfl (Pick.refl _))
                              · intro Es
                                refine TO.ixV hz135 hc133 hn132 g147 rfl rfl rfl rfl rfl TWLCsrRows.l30 TWLCsrRows.n3 ?_
                                exact TO.done (X.ob rfl (Pick.refl _))
                              · intro Es
                                refine TO.ldIV hz135 hc133 hn132 g147 rfl rfl rfl rfl TWLCsrRows.s3 (List.Mem.tail _ (List.Mem.tail _ (List.Mem.tail _ (List.Mem.tail _ (List.Mem.tail _ (List.Mem.tail _ (List.Mem.tail _ (List.Mem.tail _ (List.Mem.head _))))))))) ?_
                                exact TO.done (X.ob rfl (Pick.refl _))
                              · intro Es
                                refine TO.bin rfl rfl rfl rfl rfl rfl ?_
                                exact TO.done (X.ob rfl (Pick.refl _))
                              · intro Es
                                refine TO.move rfl rfl rfl rfl ?_
                                exact TO.done (X.ob rfl (Pick.refl _))
                              · intro Es
                                refine TO.bin rfl rfl rfl rfl rfl rfl ?_
                                exact TO.done (X.ob rfl (Pick.refl _))
                              · intro Es
                                refine TO.neb rfl rfl rfl rfl rfl TWLCsrRows.u4 ?_
                                exact TO.done (X.ob rfl (Pick.refl _))
                              · intro Es
                                refine TO.pickF rfl rfl rfl rfl rfl ?_
                                exact TO.done (X.ob rfl (Pick.refl _))
                              · intro Es
                                refine TO.move rfl rfl rfl rfl ?_
                                refine TO.decB (t := 173) (b' := false) rfl (Bool.eq_false_iff.2 g148) ?_
                                exact TO.done (X.ob2 rfl (Pick.refl _))
                              · intro Es
                                refine TO.move rfl rfl rfl rfl ?_
                                exact TO.done (X.ob rfl (Pick.refl _))
                              · intro Es
                                refine TO.bin rfl rfl rfl rfl rfl rfl ?_
                                exact TO.done (X.ob rfl (Pick.refl _))
                              · intro Es
                                refine TO.move rfl rfl rfl rfl ?_
                                refine TO.decB (t := 176) (b' := true) rfl (decide_eq_true g149) ?_
                                exact TO.done (X.ob2 rfl (Pick.refl _))
                              · intro Es
                                refine TO.fieldAddr0 rfl rfl rfl rfl TWLCsrRows.f33_7 ?_
                                exact TO.done (X.ob rfl (Pick.refl _))
                              · intro Es
                                refine TO.load1 rfl rfl rfl rfl TWLCsrRows.s30 (List.Mem.head _) rfl ?_
                                exact TO.done (X.ob rfl (Pick.refl _))
                              · intro Es
                                refine TO.move rfl rfl rfl rfl ?_
                                exact TO.done (X.ob rfl (Pick.refl _))
                              · intro Es
                                refine TO.move rfl rfl rfl rfl ?_
                                exact TO.done (X.ob rfl (Pick.refl _))
                              · intro Es
                                refine TO.ixV hz135 hc133 hn132 g150 rfl rfl rfl rfl rfl TWLCsrRows.l30 TWLCsrRows.n3 ?_
                                exact TO.done (X.ob rfl (Pick.refl _))
                              · intro Es
                                refine TO.ldIV hz135 hc133 hn132 g150 rfl rfl rfl rfl TWLCsrRows.s3 (List.Mem.tail _ (List.Mem.tail _ (List.Mem.tail _ (List.Mem.tail _ (List.Mem.tail _ (List.Mem.tail _ (List.Mem.tail _ (List.Mem.tail _ (List.Mem.head _))))))))) ?_
                                exact TO.done (X.ob rfl (Pick.refl _))
                              · intro Es
                                refine TO.ixV hz60 hc58 hn57 g151 rfl rfl rfl rfl rfl TWLCsrRows.l30 TWLCsrRows.n3 ?_
                                exact TO.done (X.ob rfl (Pick.refl _))
                              · intro Es
                                refine TO.ldIV hz60 hc58 hn57 g151 rfl rfl rfl rfl TWLCsrRows.s3 (List.Mem.tail _ (List.Mem.tail _ (List.Mem.tail _ (List.Mem.tail _ (List.Mem.tail _ (List.Mem.head _)))))) ?_
                                exact TO.done (X.ob rfl (Pick.refl _))
                              · intro Es
                                refine TO.move rfl rfl rfl rfl ?_
                                exact TO.done (X.ob rfl (Pick.refl _))
                              · intro Es
                                refine TO.bin rfl rfl rfl rfl rfl rfl ?_
                                exact TO.done (X.ob rfl (Pick.refl _))
                              · intro Es
                                refine TO.move rfl rfl rfl rfl ?_
                                refine TO.decB (t := 187) (b' := false) rfl (decide_eq_false g152) ?_
                                exact TO.done (X.ob2 rfl (Pick.refl _))
                              · intro Es
                                refine TO.fieldAddr0 rfl rfl rfl rfl TWLCsrRows.f33_8 ?_
                                exact TO.done (X.ob rfl (Pick.refl _))
                              · intro Es
                                refine TO.load1 rfl rfl rfl rfl TWLCsrRows.s31 (List.Mem.head _) rfl ?_
                                exact TO.done (X.ob rfl (Pick.refl _))
                              · intro Es
                                refine TO.move rfl rfl rfl rfl ?_
                                exact TO.done (X.ob rfl (Pick.refl _))
                              · intro Es
                                refine TO.move rfl rfl rfl rfl ?_
                                exact TO.done (X.ob rfl (Pick.refl _))
                              · intro Es
                                refine TO.ixV hz135 hc133 hn132 g153 rfl rfl rfl rfl rfl TWLCsrRows.l30 TWLCsrRows.n3 ?_
                                exact TO.done (X.ob rfl (Pick.refl _))
                              · intro Es
                                refine TO.ldIV hz135 hc133 hn132 g153 rfl rfl rfl rfl TWLCsrRows.s3 (List.Mem.tail _ (List.Mem.tail _ (List.Mem.tail _ (List.Mem.tail _ (List.Mem.tail _ (List.Mem.tail _ (List.Mem.tail _ (List.Mem.tail _ (List.Mem.head _))))))))) ?_
                                exact TO.done (X.ob rfl (Pick.refl _))
                            refine TO.ixV hz64 hc62 hn61 g154 rfl rfl rfl rfl rfl TWLCsrRows.l31 TWLCsrRows.n4 ?_
                            refine TO.ldBV hz64 hc62 hn61 g154 rfl rfl rfl rfl TWLCsrRows.s4 (List.Mem.tail _ (List.Mem.tail _ (List.Mem.tail _ (List.Mem.tail _ (List.Mem.tail _ (List.Mem.tail _ (List.Mem.head _))))))) ?_
                            refine TO.pickF rfl rfl rfl rfl rfl ?_
                            refine TO.pickT rfl rfl rfl rfl rfl ?_
                            refine TO.pickF rfl rfl rfl rfl rfl ?_
                            refine TO.done ?_
                            refine X.seq_normal ?_
                            refine T.trim (AllF.cons (t := 3) rfl (AllF.cons (t := 5) rfl (AllF.cons (t := 10) rfl (AllF.cons (t := 145) rfl (AllF.cons (t := 146) rfl (AllF.cons (t := 147) rfl (AllF.cons (t := 164) rfl (AllF.cons (t := 165) rfl (AllF.cons (t := 166) rfl (AllF.cons (t := 167) rfl (AllF.cons (t := 168) rfl (AllF.cons (t := 169) rfl (AllF.cons (t := 170) rfl (AllF.cons (t := 171) rfl (AllF.cons (t := 174) rfl (AllF.cons (t := 175) rfl (AllF.cons (t := 176) rfl (AllF.cons (t := 177) rfl (AllF.cons (t := 178) rfl (AllF.cons (t := 179) rfl (AllF.cons (t := 180) rfl (AllF.cons (t := 181) rfl (AllF.cons (t := 182) rfl (AllF.cons (t := 183) rfl (AllF.cons (t := 184) rfl (AllF.cons (t := 185) rfl (AllF.cons (t := 186) rfl (AllF.cons (t := 187) rfl (AllF.cons (t := 188) rfl (AllF.cons (t := 189) rfl (AllF.cons (t := 190) rfl (AllF.cons (t := 191) rfl (AllF.cons (t := 192) rfl (AllF.cons (t := 193) rfl (AllF.cons (t := 194) rfl (AllF.cons (t := 195) rfl (AllF.cons (t := 196) rfl (AllF.cons (t := 197) rfl (AllF.cons (t := 198) rfl AllF.nil))))))))))))))))))))))))))))))))))))))) ?_
                            rcases ite_some H with ⟨g155, H⟩ | ⟨g155, H⟩
                            ·
                              refine T.condT rfl g155 ?_
                              refine T.seq ?_
                              refine T.regionL (ll := [0]) rfl ?_
                              refine TO.assign rfl rfl rfl rfl ?_
                              refine TO.done ?_
                              refine X.seq_normal ?_
                              refine T.trim (AllF.cons (t := 2) rfl AllF.nil) ?_
                              refine T.ret ?_
                              refine X.block_ret ?_
                              refine X.then_ret ?_
                              have H := loop_exitE H C_5 ▸ K_5
                              refine X.then_ret ?_
                              refine X.block_ret ?_
                              refine X.then_ret ?_
                              obtain rfl := ret1 H
                              exact X.ret1 rfl rfl rfl rfl (Res.tmp rfl) Pick.nil ⟨rfl, rfl⟩
                            ·
                              refine T.condF rfl (Bool.eq_false_iff.2 g155) ?_
                              refine T.skip ?_
                              refine X.block_normal ?_
                              refine X.seq_normal ?_
                              obtain ⟨g156, H⟩ := gd_some H
                              refine T.regionL (ll := [0, 1]) rfl ?_
                              refine TO.addG g156 rfl rfl rfl rfl rfl ?_
                              refine TO.move rfl rfl rfl rfl ?_
                              refine TO.done ?_
                              have H := loop_next H C_5
                              exact X.againE2 n_5 (x138 + 1) H (Nat.lt_succ_self _) (AllF.cons rfl (AllF.cons rfl (AllF.cons rfl (AllF.cons rfl (AllF.cons rfl (AllF.cons rfl AllF.nil)))))) (Pick.cons (Take.head _ _) (Pick.cons (Take.head _ _) (Pick.cons (Take.head _ _) (Pick.cons (Take.head _ _) (Pick.cons (Take.head _ _) (Pick.cons (Take.head _ _) (Pick.cons (Take.head _ _) (Pick.cons (Take.head _ _) (Pick.cons (Take.head _ _) (Pick.cons (Take.head _ _) Pick.nil))))))))))
                        ·
                          apply T.drawQT [(157, _), (158, _), (159, _), (160, _), (161, _), (162, _), (163, _), (164, _), (165, _), (166, _), (167, _), (168, _), (169, _), (170, _), (171, _), (172, _), (173, _), (174, _), (175, _), (176, _), (177, _), (178, _), (179, _), (180, _), (181, _), (182, _), (183, _), (184, _), (185, _), (186, _), (187, _), (188, _), (189, _), (190, _), (191, _), (192, _), (193, _)]
                          · exact mixed
                          · kernel_rfl
                          · kernel_rfl
                          · exact rfl
                          · exact rfl
                          · refine ⟨?_, ?_, ?_, ?_, ?_, ?_, ?_, ?_, ?_, ?_, ?_, ?_, ?_, ?_, ?_, ?_, ?_, ?_, ?_, ?_, ?_, ?_, ?_, ?_, ?_, ?_, ?_, ?_, ?_, ?_, ?_, ?_, ?_, ?_, ?_, ?_, ?_, trivial⟩
                            · intro Es
                              refine TO.move rfl rfl rfl rfl ?_
                              exact TO.done (X.ob rfl (Pick.refl _))
                            · intro Es
                              refine TO.move rfl rfl rfl rfl ?_
                              exact TO.done (X.ob rfl (Pick.refl _))
                            · intro Es
                              refine TO.ix1 hn125 g145 rfl rfl rfl rfl rfl TWLCsrRows.l30 TWLCsrRows.n3 ?_
                              exact TO.done (X.ob rfl (Pick.refl _))
                            · intro Es
                              refine TO.ldIO g145 rfl rfl rfl rfl TWLCsrRows.s3 (List.Mem.tail _ (List.Mem.tail _ (List.Mem.tail _ (List.Mem.tail _ (List.Mem.tail _ (List.Mem.tail _ (List.Mem.tail _ (List.Mem.head _)))))))) ?_
                              exact TO.done (X.ob rfl (Pick.refl _))
                            · intro Es
                              refine TO.move rfl rfl rfl rfl ?_
                              exact TO.done (X.ob rfl (Pick.refl _))
                            · intro Es
                              refine TO.bin rfl rfl rfl rfl rfl rfl ?_
                              exact TO.done (X.ob rfl (Pick.refl _))
                            · intro Es
                              refine TO.move rfl rfl rfl rfl ?_
                              refine TO.decB (t := 163) (b' := false) rfl (decide_eq_false g146) ?_
                              exact TO.done (X.ob2 rfl (Pick.refl _))
                            · intro Es
                              refine TO.move rfl rfl rfl rfl ?_
                              exact TO.done (X.ob rfl (Pick.refl _))
                            · intro Es
                              refine TO.move rfl rfl rfl rfl ?_
                              exact TO.done (X.ob rfl (Pick.refl _))
                            · intro Es
                              refine TO.ixV hz135 hc133 hn132 g147 rfl rfl rfl rfl rfl TWLCsrRows.l30 TWLCsrRows.n3 ?_
                              exact TO.done (X.ob rfl (Pick.refl _))
                            · intro Es
                              refine TO.ldIV hz135 hc133 hn132 g147 rfl rfl rfl rfl TWLCsrRows.s3 (List.Mem.tail _ (List.Mem.tail _ (List.Mem.tail _ (List.Mem.tail _ (List.Mem.tail _ (List.Mem.tail _ (List.Mem.tail _ (List.Mem.tail _ (List.Mem.head _))))))))) ?_
                              exact TO.done (X.ob rfl (Pick.refl _))
                            · intro Es
                              refine TO.bin rfl rfl rfl rfl rfl rfl ?_
                              exact TO.done (X.ob rfl (Pick.refl _))
                            · intro Es
                              refine TO.move rfl rfl rfl rfl ?_
                              exact TO.done (X.ob rfl (Pick.refl _))
                            · intro Es
                              refine TO.bin rfl rfl rfl rfl rfl rfl ?_
                              exact TO.done (X.ob rfl (Pick.refl _))
                            · intro Es
                              refine TO.neb rfl rfl rfl rfl rfl TWLCsrRows.u4 ?_
                              exact TO.done (X.ob rfl (Pick.refl _))
                            · intro Es
                              refine TO.pickF rfl rfl rfl rfl rfl ?_
                              exact TO.done (X.ob rfl (Pick.refl _))
                            · intro Es
                              refine TO.move rfl rfl rfl rfl ?_
                              refine TO.decB (t := 173) (b' := false) rfl (Bool.eq_false_iff.2 g148) ?_
                              exact TO.done (X.ob2 rfl (Pick.refl _))
                            · intro Es
                              refine TO.move rfl rfl rfl rfl ?_
                              exact TO.done (X.ob rfl (Pick.refl _))
                            · intro Es
                              refine TO.bin rfl rfl rfl rfl rfl rfl ?_
                              exact TO.done (X.ob rfl (Pick.refl _))
                            · intro Es
                              refine TO.move rfl rfl rfl rfl ?_
                              refine TO.decB (t := 176) (b' := false) rfl (decide_eq_false g149) ?_
                              exact TO.done (X.ob2 rfl (Pick.refl _))
                            · intro Es
                              refine TO.shut rfl rfl rfl rfl ?_
                              exact TO.done (X.ob rfl (Pick.refl _))
                            · intro Es
                              refine TO.shut rfl rfl rfl rfl ?_
                              exact TO.done (X.ob rfl (Pick.refl _))
                            · intro Es
                              refine TO.shut rfl rfl rfl rfl ?_
                              exact TO.done (X.ob rfl (Pick.refl _))
                            · intro Es
                              refine TO.shut rfl rfl rfl rfl ?_
                              exact TO.done (X.ob rfl (Pick.refl _))
                            · intro Es
                              refine TO.shut rfl rfl rfl rfl ?_
                              exact TO.done (X.ob rfl (Pick.refl _))
                            · intro Es
                              refine TO.shut rfl rfl rfl rfl ?_
                              exact TO.done (X.ob rfl (Pick.refl _))
                            · intro Es
                              refine TO.shut rfl rfl rfl rfl ?_
                              exact TO.done (X.ob rfl (Pick.refl _))
                            · intro Es
                              refine TO.shut rfl rfl rfl rfl ?_
                              exact TO.done (X.ob rfl (Pick.refl _))
                            · intro Es
                              refine TO.shut rfl rfl rfl rfl ?_
                              exact TO.done (X.ob rfl (Pick.refl _))
                            · intro Es
                              refine TO.shut rfl rfl rfl rfl ?_
                              exact TO.done (X.ob rfl (Pick.refl _))
                            · intro Es
                              refine TO.shut rfl rfl rfl rfl ?_
                              exact TO.done (X.ob rfl (Pick.refl _))
                            · intro Es
                              refine TO.shutU rfl rfl rfl rfl ?_
                              exact TO.done (X.ob rfl (Pick.refl _))
                            · intro Es
                              refine TO.shutU rfl rfl rfl rfl ?_
                              exact TO.done (X.ob rfl (Pick.refl _))
                            · intro Es
                              refine TO.shutU rfl rfl rfl rfl ?_
                              exact TO.done (X.ob rfl (Pick.refl _))
                            · intro Es
                              refine TO.shutU rfl rfl rfl rfl ?_
                              exact TO.done (X.ob rfl (Pick.refl _))
                            · intro Es
                              refine TO.shutU rfl rfl rfl rfl ?_
                              exact TO.done (X.ob rfl (Pick.refl _))
                            · intro Es
                              refine TO.shutU rfl rfl rfl rfl ?_
                              exact TO.done (X.ob rfl (Pick.refl _))
                          refine TO.shutU rfl rfl rfl rfl ?_
                          refine TO.shutU rfl rfl rfl rfl ?_
                          refine TO.shut rfl rfl rfl rfl ?_
                          refine TO.pickF rfl rfl rfl rfl rfl ?_
                          refine TO.pickF rfl rfl rfl rfl rfl ?_
                          refine TO.done ?_
                          refine X.seq_normal ?_
                          refine T.trim (AllF.cons (t := 3) rfl (AllF.cons (t := 5) rfl (AllF.cons (t := 10) rfl (AllF.cons (t := 145) rfl (AllF.cons (t := 146) rfl (AllF.cons (t := 147) rfl (AllF.cons (t := 164) rfl (AllF.cons (t := 165) rfl (AllF.cons (t := 166) rfl (AllF.cons (t := 167) rfl (AllF.cons (t := 168) rfl (AllF.cons (t := 169) rfl (AllF.cons (t := 170) rfl (AllF.cons (t := 171) rfl (AllF.cons (t := 174) rfl (AllF.cons (t := 175) rfl (AllF.cons (t := 176) rfl (AllF.cons (t := 177) rfl (AllF.cons (t := 178) rfl (AllF.cons (t := 179) rfl (AllF.cons (t := 180) rfl (AllF.cons (t := 181) rfl (AllF.cons (t := 182) rfl (AllF.cons (t := 183) rfl (AllF.cons (t := 184) rfl (AllF.cons (t := 185) rfl (AllF.cons (t := 186) rfl (AllF.cons (t := 187) rfl (AllF.cons (t := 188) rfl (AllF.cons (t := 189) rfl (AllF.cons (t := 190) rfl (AllF.cons (t := 191) rfl (AllF.cons (t := 192) rfl (AllF.cons (t := 193) rfl (AllF.cons (t := 194) rfl (AllF.cons (t := 195) rfl (AllF.cons (t := 196) rfl (AllF.cons (t := 197) rfl (AllF.cons (t := 198) rfl AllF.nil))))))))))))))))))))))))))))))))))))))) ?_
                          refine T.condF rfl rfl ?_
                          refine T.skip ?_
                          refine X.block_normal ?_
                          refine X.seq_normal ?_
                          obtain ⟨g157, H⟩ := gd_some H
                          refine T.regionL (ll := [0, 1]) rfl ?_
                          refine TO.addG g157 rfl rfl rfl rfl rfl ?_
                          refine TO.move rfl rfl rfl rfl ?_
                          refine TO.done ?_
                          have H := loop_next H C_5
                          exact X.againE2 n_5 (x138 + 1) H (Nat.lt_succ_self _) (AllF.cons rfl (AllF.cons rfl (AllF.cons rfl (AllF.cons rfl (AllF.cons rfl (AllF.cons rfl AllF.nil)))))) (Pick.cons (Take.head _ _) (Pick.cons (Take.head _ _) (Pick.cons (Take.head _ _) (Pick.cons (Take.head _ _) (Pick.cons (Take.head _ _) (Pick.cons (Take.head _ _) (Pick.cons (Take.head _ _) (Pick.cons (Take.head _ _) (Pick.cons (Take.head _ _) (Pick.cons (Take.head _ _) Pick.nil))))))))))
                ·
                  refine T.condPF rfl g139 ?_
                  refine T.exit ?_
                  refine X.then_exit ?_
                  have H := loop_exitE H C_5 ▸ K_5
                  refine X.then_exit ?_
                  refine X.block_here ?_
                  exact X.metE1 () H AllF.nil Pick.nil
              · rintro u158 H
                unfold m_acequialaw02_CsrRows_j7 at H
                refine T.seq ?_
                obtain ⟨r159, e160, H⟩ := bd_some H
                refine T.regionL (ll := [0, 1]) rfl ?_
                refine TO.callX TWLCsrRows.c23 rfl rfl rfl rfl (fun wc hwc => w_acequialaw02_awake  wc  e160) ?_
                rintro _ _ ⟨rfl, rfl⟩
                refine TO.assign rfl rfl rfl rfl ?_
                refine TO.done ?_
                refine X.seq_normal ?_
                refine T.ret ?_
                obtain rfl := ret1 H
                exact X.ret1 rfl rfl rfl rfl (Res.tmp rfl) Pick.nil ⟨rfl, rfl⟩
end Go.Proofs.Ytcdbemdogkmahaa.Ax
