/- Texts of this claim, one behind the other. -/
import Derived.Test.YtjeenmabclghoaaA1
import Derived.Test.YtjeenmabclghoaaA2
import Derived.Test.YtjeenmabclghoaaChecked
namespace Go.Proofs.Ytjeenmabclghoaa.Ax
open Go Go.Acq Go.RowKit Go.Proofs
set_option linter.unusedVariables false
set_option linter.unusedSimpArgs false
set_option maxHeartbeats 8000000
set_option maxRecDepth 20000
theorem mixed : Try.prog.follows .mixedOrders = true := by kernel_rfl
theorem TWBS4.a136 : aggT Try.prog 136 2 = true := by kernel_rfl
theorem TWBS4.a137 : aggT Try.prog 137 12 = true := by kernel_rfl
theorem TWBS4.a24 : aggT Try.prog 24 4 = true := by kernel_rfl
theorem TWBS4.a32 : aggT Try.prog 32 9 = true := by kernel_rfl
theorem TWBS4.a67 : aggT Try.prog 67 3 = true := by kernel_rfl
theorem TWBS4.b2 : bytesT Try.prog 2 = some 8 := by kernel_rfl
theorem TWBS4.b3 : bytesT Try.prog 3 = some 8 := by kernel_rfl
theorem TWBS4.b4 : bytesT Try.prog 4 = some 1 := by kernel_rfl
theorem TWBS4.b67 : bytesT Try.prog 67 = some 24 := by kernel_rfl
theorem TWBS4.c102 : callable Try.prog 102 = true := by kernel_rfl
theorem TWBS4.c111 : callable Try.prog 111 = true := by kernel_rfl
theorem TWBS4.c112 : callable Try.prog 112 = true := by kernel_rfl
theorem TWBS4.c113 : callable Try.prog 113 = true := by kernel_rfl
theorem TWBS4.c114 : callable Try.prog 114 = true := by kernel_rfl
theorem TWBS4.c115 : callable Try.prog 115 = true := by kernel_rfl
theorem TWBS4.c116 : callable Try.prog 116 = true := by kernel_rfl
theorem TWBS4.c117 : callable Try.prog 117 = true := by kernel_rfl
theorem TWBS4.c118 : callable Try.prog 118 = true := by kernel_rfl
theorem TWBS4.c119 : callable Try.prog 119 = true := by kernel_rfl
theorem TWBS4.c121 : callable Try.prog 121 = true := by kernel_rfl
theorem TWBS4.c122 : callable Try.prog 122 = true := by kernel_rfl
theorem TWBS4.c123 : callable Try.prog 123 = true := by kernel_rfl
theorem TWBS4.c125 : callable Try.prog 125 = true := by kernel_rfl
theorem TWBS4.c57 : callable Try.prog 57 = true := by kernel_rfl
theorem TWBS4.c65 : callable Try.prog 65 = true := by kernel_rfl
theorem TWBS4.c79 : callable Try.prog 79 = true := by kernel_rfl
theorem TWBS4.c85 : callable Try.prog 85 = true := by kernel_rfl
theorem TWBS4.c86 : callable Try.prog 86 = true := by kernel_rfl
theorem TWBS4.f136_0 : fieldT Try.prog 136 0 = some 0 := by kernel_rfl
theorem TWBS4.f136_1 : fieldT Try.prog 136 1 = some 1 := by kernel_rfl
theorem TWBS4.f24_0 : fieldT Try.prog 24 0 = some 0 := by kernel_rfl
theorem TWBS4.f24_1 : fieldT Try.prog 24 1 = some 1 := by kernel_rfl
theorem TWBS4.f24_2 : fieldT Try.prog 24 2 = some 2 := by kernel_rfl
theorem TWBS4.f24_3 : fieldT Try.prog 24 3 = some 3 := by kernel_rfl
theorem TWBS4.f32_3 : fieldT Try.prog 32 3 = some 3 := by kernel_rfl
theorem TWBS4.f32_4 : fieldT Try.prog 32 4 = some 4 := by kernel_rfl
theorem TWBS4.f32_5 : fieldT Try.prog 32 5 = some 5 := by kernel_rfl
theorem TWBS4.f32_6 : fieldT Try.prog 32 6 = some 6 := by kernel_rfl
theorem TWBS4.f32_7 : fieldT Try.prog 32 7 = some 7 := by kernel_rfl
theorem TWBS4.f32_8 : fieldT Try.prog 32 8 = some 8 := by kernel_rfl
theorem TWBS4.f67_0 : fieldT Try.prog 67 0 = some 0 := by kernel_rfl
theorem TWBS4.f67_1 : fieldT Try.prog 67 1 = some 1 := by kernel_rfl
theorem TWBS4.f67_2 : fieldT Try.prog 67 2 = some 2 := by kernel_rfl
theorem TWBS4.l22 : sliceT Try.prog 22 = some 67 := by kernel_rfl
theorem TWBS4.l26 : sliceT Try.prog 26 = some 2 := by kernel_rfl
theorem TWBS4.l27 : sliceT Try.prog 27 = some 3 := by kernel_rfl
theorem TWBS4.l30 : sliceT Try.prog 30 = some 4 := by kernel_rfl
theorem TWBS4.n136 : sizeT Try.prog 136 = some 2 := by kernel_rfl
theorem TWBS4.n137 : sizeT Try.prog 137 = some 12 := by kernel_rfl
theorem TWBS4.n2 : sizeT Try.prog 2 = some 1 := by kernel_rfl
theorem TWBS4.n22 : sizeT Try.prog 22 = some 1 := by kernel_rfl
theorem TWBS4.n24 : sizeT Try.prog 24 = some 4 := by kernel_rfl
theorem TWBS4.n26 : sizeT Try.prog 26 = some 1 := by kernel_rfl
theorem TWBS4.n27 : sizeT Try.prog 27 = some 1 := by kernel_rfl
theorem TWBS4.n3 : sizeT Try.prog 3 = some 1 := by kernel_rfl
theorem TWBS4.n30 : sizeT Try.prog 30 = some 1 := by kernel_rfl
theorem TWBS4.n32 : sizeT Try.prog 32 = some 9 := by kernel_rfl
theorem TWBS4.n4 : sizeT Try.prog 4 = some 1 := by kernel_rfl
theorem TWBS4.n67 : sizeT Try.prog 67 = some 3 := by kernel_rfl
theorem TWBS4.r137 : Try.prog.underlying 137 = some (.array 6 136) := by kernel_rfl
theorem TWBS4.s148 : scalT Try.prog 148 = true := by kernel_rfl
theorem TWBS4.s2 : scalT Try.prog 2 = true := by kernel_rfl
theorem TWBS4.s22 : scalT Try.prog 22 = true := by kernel_rfl
theorem TWBS4.s26 : scalT Try.prog 26 = true := by kernel_rfl
theorem TWBS4.s27 : scalT Try.prog 27 = true := by kernel_rfl
theorem TWBS4.s3 : scalT Try.prog 3 = true := by kernel_rfl
theorem TWBS4.s30 : scalT Try.prog 30 = true := by kernel_rfl
theorem TWBS4.s33 : scalT Try.prog 33 = true := by kernel_rfl
theorem TWBS4.s83 : scalT Try.prog 83 = true := by kernel_rfl
theorem TWBS4.z136 : zeroT Try.prog 136 = some (.agg #[.nilFunc, .int .i64 0]) := by kernel_rfl
theorem TWBS4.z137 : zeroT Try.prog 137 = some (.agg #[.nilFunc, .int .i64 0, .nilFunc, .int .i64 0, .nilFunc, .int .i64 0, .nilFunc, .int .i64 0, .nilFunc, .int .i64 0, .nilFunc, .int .i64 0]) := by kernel_rfl
theorem TWBS4.z2 : zeroT Try.prog 2 = some (.int .i64 0) := by kernel_rfl
theorem TWBS4.z24 : zeroT Try.prog 24 = some (.agg #[.int .i64 0, .int .i64 0, .int .i64 0, .slice none 0 0]) := by kernel_rfl
theorem TWBS4.z27 : zeroT Try.prog 27 = some (.slice none 0 0) := by kernel_rfl
theorem TWBS4.z3 : zeroT Try.prog 3 = some (.int .i64 0) := by kernel_rfl
theorem TWBS4.z32 : zeroT Try.prog 32 = some (.agg #[.int .i64 0, .int .i64 0, .int .i64 0, .slice none 0 0, .slice none 0 0, .slice none 0 0, .slice none 0 0, .slice none 0 0, .slice none 0 0]) := by kernel_rfl
theorem TWBS4.z4 : zeroT Try.prog 4 = some (.bool false) := by kernel_rfl
theorem TWBS4.z67 : zeroT Try.prog 67 = some (.agg #[.int .i64 0, .int .i64 0, .int .i64 0]) := by kernel_rfl
theorem TWBS4el22 : ElemT Try.prog 22 67 3 24 (.agg #[.int .i64 0, .int .i64 0, .int .i64 0]) := ⟨TWBS4.l22, TWBS4.n67, TWBS4.b67, TWBS4.z67, rfl⟩
theorem TWBS4el27 : ElemT Try.prog 27 3 1 8 (.int .i64 0) := ⟨TWBS4.l27, TWBS4.n3, TWBS4.b3, TWBS4.z3, rfl⟩
/-- acequia/acequialow.Among -/
theorem w_acequialow_Among {x0 : Int} {n1 : Int} (w : World) {r0 : Int} (H : m_acequialow_Among x0 n1 = some r0) : Fnc Try.prog 57 #[.int .i64 x0, .int .i64 n1] w [] (fun v N => v = .int .i64 r0 ∧ N = []) := by
  unfold m_acequialow_Among at H
  refine Fnc.enter (vs := [.int .i64 x0, .int .i64 n1]) Try.func57 rfl rfl (Inv.refl w) ?_
  refine T.seq ?_
  refine T.regionL (ll := [0]) rfl ?_
  refine TO.assign rfl rfl rfl rfl ?_
  refine TO.done ?_
  refine X.seq_normal ?_
  refine T.seq ?_
  refine T.seq ?_
  refine T.regionL (ll := [0, 1]) rfl ?_
  refine TO.move rfl rfl rfl rfl ?_
  refine TO.bin rfl rfl rfl rfl rfl rfl ?_
  refine TO.done ?_
  refine X.seq_normal ?_
  rcases ite_some H with ⟨g1, H⟩ | ⟨g1, H⟩
  ·
    refine T.condPT rfl g1 ?_
    refine T.seq ?_
    refine T.regionL (ll := [0]) rfl ?_
    refine TO.assign rfl rfl rfl rfl ?_
    refine TO.done ?_
    refine X.seq_normal ?_
    refine T.ret ?_
    refine X.then_ret ?_
    obtain rfl := ret1 H
    exact X.ret1 rfl rfl rfl rfl (Res.tmp rfl) Pick.nil ⟨rfl, rfl⟩
  ·
    refine T.condPF rfl g1 ?_
    refine T.skip ?_
    refine X.seq_normal ?_
    refine T.seq ?_
    obtain ⟨g2, H⟩ := gd_some H
    obtain ⟨g3, H⟩ := gd_some H
    obtain ⟨g4, H⟩ := gd_some H
    refine T.regionL (ll := [0, 1, 2, 3, 4, 5, 6, 7]) rfl ?_
    refine TO.move rfl rfl rfl rfl ?_
    refine TO.move rfl rfl rfl rfl ?_
    refine TO.rem rfl rfl rfl rfl rfl g2 ?_
    refine TO.move rfl rfl rfl rfl ?_
    refine TO.addG g3 rfl rfl rfl rfl rfl ?_
    refine TO.move rfl rfl rfl rfl ?_
    refine TO.rem rfl rfl rfl rfl rfl g4 ?_
    refine TO.assign rfl rfl rfl rfl ?_
    refine TO.done ?_
    refine X.seq_normal ?_
    refine T.trim (AllF.cons (t := 4) rfl AllF.nil) ?_
    refine T.ret ?_
    obtain rfl := ret1 H
    exact X.ret1 rfl rfl rfl rfl (Res.tmp rfl) Pick.nil ⟨rfl, rfl⟩
/-- acequia/acequialow.Some -/
theorem w_acequialow_Some {n0 : Net} {verts1 : Int} {arcs2 : Int} {n0f3_b : Option Addr} {n0f3_n : Nat} {n0f3_c : Nat} (w : World) (h_n0f3 : RS w [] arcC 3 n0f3_b n0f3_n n0f3_c n0.Arcs) {r0 : Net} (H : m_acequialow_Some n0 verts1 arcs2 = some r0) : Fnc Try.prog 16 #[.agg #[.int .i64 n0.N, .int .i64 n0.S, .int .i64 n0.T, .slice n0f3_b n0f3_n n0f3_c], .int .i64 verts1, .int .i64 arcs2] w [] (fun v N => ∃ (ob_0 : Option Nat) (n_0 : Nat) (c_0 : Nat) (j_0 : List Value), v = .agg #[.int .i64 r0.N, .int .i64 r0.S, .int .i64 r0.T, .slice (sb ob_0) n_0 c_0] ∧ N = [(ob_0, .cells (arr arcC r0.Arcs j_0).toArray 67 (0, 0))] ∧ r0.Arcs.length = n_0 ∧ n_0 ≤ c_0 ∧ j_0.length = (c_0 - n_0) * 3 ∧ (ob_0 = none → c_0 = 0)) := by
  unfold m_acequialow_Some at H
  refine Fnc.enter (vs := [.agg #[.int .i64 n0.N, .int .i64 n0.S, .int .i64 n0.T, .slice n0f3_b n0f3_n n0f3_c], .int .i64 verts1, .int .i64 arcs2]) Try.func16 rfl rfl (Inv.refl w) ?_
  refine T.seq ?_
  refine T.regionL (ll := [0, 1]) rfl ?_
  refine TO.boxA rfl rfl rfl rfl ?_; intro b1
  refine TO.allocA rfl rfl rfl TWBS4.z24 ?_; intro b3
  refine TO.done ?_
  refine X.seq_normal ?_
  refine T.seq ?_
  obtain ⟨g5, H⟩ := gd_some H
  obtain ⟨r6, e7, H⟩ := bd_some H
  obtain ⟨g8, H⟩ := gd_some H
  refine T.regionL (ll := [0, 1, 2, 3, 4, 5, 6, 7, 8]) rfl ?_
  refine TO.fieldAddr0 rfl rfl rfl rfl TWBS4.f24_0 ?_
  refine TO.load1 rfl rfl rfl rfl TWBS4.s3 mm1 rfl ?_
  refine TO.move rfl rfl rfl rfl ?_
  refine TO.subG g5 rfl rfl rfl rfl rfl ?_
  refine TO.callX TWBS4.c57 rfl rfl rfl rfl (fun wc hwc => w_acequialow_Among (x0 := n0.N) (n1 := (verts1 - 1)) wc  e7) ?_
  rintro _ _ ⟨rfl, rfl⟩
  refine TO.addG g8 rfl rfl rfl rfl rfl ?_
  refine TO.buildS (t := 24) [.int .i64 0, .int .i64 0, .int .i64 0, .slice none 0 0] [0, 1, 2, 3] rfl rfl rfl rfl (by simp only [setAll, setCells, Value.cells, List.toList_toArray, List.getD_cons_zero, List.getD_cons_succ, List.set_cons_zero, List.set_cons_succ]; rfl) (by kernel_rfl) ?_
  refine TO.allocA rfl rfl rfl TWBS4.z24 ?_; intro b9
  refine TO.storeA rfl rfl rfl rfl tk0 TWBS4.n24 rfl rfl rfl ?_
  refine TO.done ?_
  refine X.seq_normal ?_
  refine T.trim (AllF.cons (t := 2) rfl (AllF.cons (t := 3) rfl (AllF.cons (t := 6) rfl (AllF.cons (t := 7) rfl AllF.nil)))) ?_
  refine T.seq ?_
  obtain ⟨r11, e12, H⟩ := bd_some H
  refine T.regionL (ll := [0, 1, 2, 3, 4, 5, 6]) rfl ?_
  refine TO.fieldAddr0 rfl rfl rfl rfl TWBS4.f24_1 ?_
  refine TO.load1 rfl rfl rfl rfl TWBS4.s3 mm2 rfl ?_
  refine TO.fieldAddr0 rfl rfl rfl rfl TWBS4.f24_0 ?_
  refine TO.load1 rfl rfl rfl rfl TWBS4.s3 mm0 rfl ?_
  refine TO.callX TWBS4.c57 rfl rfl rfl rfl (fun wc hwc => w_acequialow_Among (x0 := n0.S) (n1 := (2 + r6)) wc  e12) ?_
  rintro _ _ ⟨rfl, rfl⟩
  refine TO.fieldAddr0 rfl rfl rfl rfl TWBS4.f24_1 ?_
  refine TO.store1n (cs' := [.int .i64 (2 + r6), .int .i64 r11, .int .i64 0, .slice none 0 0]) rfl rfl rfl rfl tk0 TWBS4.n3 rfl rfl rfl ?_
  refine TO.done ?_
  refine X.seq_normal ?_
  refine T.seq ?_
  obtain ⟨r13, e14, H⟩ := bd_some H
  refine T.regionL (ll := [0, 1, 2, 3, 4, 5, 6]) rfl ?_
  refine TO.fieldAddr0 rfl rfl rfl rfl TWBS4.f24_2 ?_
  refine TO.load1 rfl rfl rfl rfl TWBS4.s3 mm2 rfl ?_
  refine TO.fieldAddr0 rfl rfl rfl rfl TWBS4.f24_0 ?_
  refine TO.load1 rfl rfl rfl rfl TWBS4.s3 mm0 rfl ?_
  refine TO.callX TWBS4.c57 rfl rfl rfl rfl (fun wc hwc => w_acequialow_Among (x0 := n0.T) (n1 := (2 + r6)) wc  e14) ?_
  rintro _ _ ⟨rfl, rfl⟩
  refine TO.fieldAddr0 rfl rfl rfl rfl TWBS4.f24_2 ?_
  refine TO.store1n (cs' := [.int .i64 (2 + r6), .int .i64 r11, .int .i64 r13, .slice none 0 0]) rfl rfl rfl rfl tk0 TWBS4.n3 rfl rfl rfl ?_
  refine TO.done ?_
  refine X.seq_normal ?_
  refine T.trim (AllF.cons (t := 2) rfl (AllF.cons (t := 3) rfl (AllF.cons (t := 6) rfl (AllF.cons (t := 7) rfl AllF.nil)))) ?_
  refine T.seq ?_
  refine T.seq ?_
  refine T.regionL (ll := [0, 1, 2, 3, 4]) rfl ?_
  refine TO.fieldAddr0 rfl rfl rfl rfl TWBS4.f24_1 ?_
  refine TO.load1 rfl rfl rfl rfl TWBS4.s3 mm0 rfl ?_
  refine TO.fieldAddr0 rfl rfl rfl rfl TWBS4.f24_2 ?_
  refine TO.load1 rfl rfl rfl rfl TWBS4.s3 mm0 rfl ?_
  refine TO.bin rfl rfl rfl rfl rfl rfl ?_
  refine TO.done ?_
  refine X.seq_normal ?_
  refine T.meetSE1 (fun (T18 : Int) => m_acequialow_Some_j1 n0 arcs2 r6 r11 T18 = some r0) (fun (T18 : Int) => [(2, .int .i64 arcs2), (3, .pointer (some ⟨b1, 0, none⟩)), (6, .pointer (some ⟨b3, 0, none⟩)), (7, .pointer (some ⟨b9, 0, none⟩))]) (fun (T18 : Int) => [(some b1, .cells #[.int .i64 n0.N, .int .i64 n0.S, .int .i64 n0.T, .slice n0f3_b n0f3_n n0f3_c] 24 (0, 0)), (some b3, .cells #[.int .i64 0, .int .i64 0, .int .i64 0, .slice none 0 0] 24 (0, 0)), (some b9, .cells #[.int .i64 (2 + r6), .int .i64 r11, .int .i64 T18, .slice none 0 0] 24 (0, 0))]) ?_ ?_
  ·
    rcases ite_some H with ⟨g15, H⟩ | ⟨g15, H⟩
    ·
      refine T.condPT rfl g15 ?_
      obtain ⟨g16, H⟩ := gd_some H
      obtain ⟨g17, H⟩ := gd_some H
      refine T.regionL (ll := [0, 1, 2, 3, 4, 5, 6, 7]) rfl ?_
      refine TO.fieldAddr0 rfl rfl rfl rfl TWBS4.f24_1 ?_
      refine TO.load1 rfl rfl rfl rfl TWBS4.s3 mm0 rfl ?_
      refine TO.addG g16 rfl rfl rfl rfl rfl ?_
      refine TO.fieldAddr0 rfl rfl rfl rfl TWBS4.f24_0 ?_
      refine TO.load1 rfl rfl rfl rfl TWBS4.s3 mm0 rfl ?_
      refine TO.rem rfl rfl rfl rfl rfl g17 ?_
      refine TO.fieldAddr0 rfl rfl rfl rfl TWBS4.f24_2 ?_
      refine TO.store1n (cs' := [.int .i64 (2 + r6), .int .i64 r11, .int .i64 ((r11 + 1).tmod (2 + r6)), .slice none 0 0]) rfl rfl rfl rfl tk0 TWBS4.n3 rfl rfl rfl ?_
      refine TO.done ?_
      exact X.metE1 ((r11 + 1).tmod (2 + r6)) H (AllF.cons rfl (AllF.cons rfl (AllF.cons rfl (AllF.cons rfl AllF.nil)))) (Pick.cons tk2 (Pick.cons tk1 (Pick.cons tk0 Pick.nil)))
    ·
      refine T.condPF rfl g15 ?_
      refine T.skip ?_
      exact X.metE1 r13 H (AllF.cons rfl (AllF.cons rfl (AllF.cons rfl (AllF.cons rfl AllF.nil)))) (Pick.cons tk2 (Pick.cons tk1 (Pick.cons tk0 Pick.nil)))
  · rintro T18 H
    unfold m_acequialow_Some_j1 at H
    refine T.seq ?_
    refine T.seq ?_
    obtain ⟨g19, H⟩ := gd_some H
    refine T.regionL (ll := [0, 1, 2, 3, 4, 5, 6, 7, 8, 9]) rfl ?_
    refine TO.fieldAddr0 rfl rfl rfl rfl TWBS4.f24_3 ?_
    refine TO.load1 rfl rfl rfl rfl TWBS4.s22 mm0 rfl ?_
    refine TO.fieldAddr0 rfl rfl rfl rfl TWBS4.f24_3 ?_
    refine TO.load1 rfl rfl rfl rfl TWBS4.s22 mm0 rfl ?_
    refine TO.lenX (xs := n0.Arcs) h_n0f3.len rfl rfl rfl rfl rfl TWBS4.l22 ?_
    refine TO.move rfl rfl rfl rfl ?_
    refine TO.min2 rfl rfl rfl rfl rfl ?_
    refine TO.slH (xs := n0.Arcs) h_n0f3.len h_n0f3.cap g19 rfl rfl rfl rfl rfl TWBS4.l22 TWBS4.n67 ?_
    refine TO.lenX (xs := (n0.Arcs.take (min (n0.Arcs.length : Int) arcs2).toNat)) ((RS.take h_n0f3 g19).len) rfl rfl rfl rfl rfl TWBS4.l22 ?_
    refine TO.move rfl rfl rfl rfl ?_
    refine TO.done ?_
    refine X.seq_normal ?_
    refine T.trim (AllF.cons (t := 6) rfl (AllF.cons (t := 7) rfl (AllF.cons (t := 49) rfl (AllF.cons (t := 50) rfl (AllF.cons (t := 51) rfl AllF.nil))))) ?_
    refine T.meetSE5 (fun (Arcs54 : List Arc) (n55 : Nat) (c56 : Nat) (ob57 : Option Nat) (j58 : List Value) => m_acequialow_Some_j4 r6 r11 T18 Arcs54 = some r0 ∧ Arcs54.length = n55 ∧ n55 ≤ c56 ∧ j58.length = (c56 - n55) * 3 ∧ (ob57 = none → c56 = 0)) (fun (Arcs54 : List Arc) (n55 : Nat) (c56 : Nat) (ob57 : Option Nat) (j58 : List Value) => [(6, .pointer (some ⟨b3, 0, none⟩)), (7, .pointer (some ⟨b9, 0, none⟩))]) (fun (Arcs54 : List Arc) (n55 : Nat) (c56 : Nat) (ob57 : Option Nat) (j58 : List Value) => [(some b3, .cells #[.int .i64 0, .int .i64 0, .int .i64 0, .slice none 0 0] 24 (0, 0)), (some b9, .cells #[.int .i64 (2 + r6), .int .i64 r11, .int .i64 T18, .slice (sb ob57) n55 c56] 24 (0, 0)), (ob57, .cells (arr arcC Arcs54 j58).toArray 67 (0, 0))]) ?_ ?_
    ·
      refine T.block ?_
      obtain ⟨o_2, e_2, K_2⟩ := bd_some H
      refine T.loopE7 (fun (m_2 : Nat) (Arcs20 : List Arc) (n21 : Nat) (c22 : Nat) (ob23 : Option Nat) (j24 : List Value) (x30 : Int) => loopM (fun s => m_acequialow_Some_s2 n0 arcs2 r6 s.1 s.2) m_2 (Arcs20, x30) = some o_2 ∧ Arcs20.length = n21 ∧ n21 ≤ c22 ∧ j24.length = (c22 - n21) * 3 ∧ (ob23 = none → c22 = 0)) (fun (m_2 : Nat) (Arcs20 : List Arc) (n21 : Nat) (c22 : Nat) (ob23 : Option Nat) (j24 : List Value) (x30 : Int) => [(6, .pointer (some ⟨b3, 0, none⟩)), (7, .pointer (some ⟨b9, 0, none⟩)), (49, .slice n0f3_b ((min (n0.Arcs.length : Int) arcs2).toNat) n0f3_c), (50, .int .i64 ((n0.Arcs.take (min (n0.Arcs.length : Int) arcs2).toNat).length : Int)), (51, .int .i64 x30)]) (fun (m_2 : Nat) (Arcs20 : List Arc) (n21 : Nat) (c22 : Nat) (ob23 : Option Nat) (j24 : List Value) (x30 : Int) => [(some b3, .cells #[.int .i64 0, .int .i64 0, .int .i64 0, .slice none 0 0] 24 (0, 0)), (some b9, .cells #[.int .i64 (2 + r6), .int .i64 r11, .int .i64 T18, .slice (sb ob23) n21 c22] 24 (0, 0)), (ob23, .cells (arr arcC Arcs20 j24).toArray 67 (0, 0))]) (fun (m_2 : Nat) (Arcs20 : List Arc) (n21 : Nat) (c22 : Nat) (ob23 : Option Nat) (j24 : List Value) (x30 : Int) => m_2) FUEL ([]) 0 0 none ([]) 0 ⟨e_2, rfl, (Nat.le_refl _), (zeroJ 0 _), (fun _ => rfl)⟩ (AllF.cons rfl (AllF.cons rfl (AllF.cons rfl (AllF.cons rfl (AllF.cons rfl AllF.nil))))) (Pick.cons tk1 (Pick.cons tk1 (Pick.none Pick.nil))) ?_
      rintro m_2 Arcs20 n21 c22 ob23 j24 x30 ⟨H, hn25, hc26, hj27, hz28⟩
      obtain ⟨n_2, r_2, rfl, H, C_2⟩ := loopM_some H
      have H : m_acequialow_Some_s2 n0 arcs2 r6 Arcs20 x30 = some r_2 := H
      unfold m_acequialow_Some_s2 at H
      refine T.seq ?_
      refine T.regionL (ll := [0]) rfl ?_
      refine TO.bin rfl rfl rfl rfl rfl rfl ?_
      refine TO.done ?_
      refine X.seq_normal ?_
      refine T.seq ?_
      rcases ite_some H with ⟨g31, H⟩ | ⟨g31, H⟩
      ·
        refine T.condPT rfl g31 ?_
        refine T.skip ?_
        refine X.seq_normal ?_
        refine T.seq ?_
        refine T.block ?_
        refine T.seq ?_
        obtain ⟨g32, H⟩ := gd_some H
        refine T.regionL (ll := [0, 1, 2, 3]) rfl ?_
        refine TO.ixR (RS.take h_n0f3 g19) g32 rfl rfl rfl rfl rfl TWBS4.l22 TWBS4.n67 ?_
        refine TO.ldSR (cs := [.int .i64 (((n0.Arcs.take (min (n0.Arcs.length : Int) arcs2).toNat).getD x30.toNat default).fr), .int .i64 (((n0.Arcs.take (min (n0.Arcs.length : Int) arcs2).toNat).getD x30.toNat default).to), .int .i64 (((n0.Arcs.take (min (n0.Arcs.length : Int) arcs2).toNat).getD x30.toNat default).cap)]) default (RS.take h_n0f3 g19) g32 rfl rfl rfl rfl rfl TWBS4.a67 ?_
        refine TO.allocA rfl rfl rfl TWBS4.z67 ?_; intro b33
        refine TO.storeA rfl rfl rfl rfl tk0 TWBS4.n67 rfl rfl rfl ?_
        refine TO.done ?_
        refine X.seq_normal ?_
        refine T.seq ?_
        refine T.regionL (ll := [0, 1, 2]) rfl ?_
        refine TO.fieldAddr0 rfl rfl rfl rfl TWBS4.f67_2 ?_
        refine TO.load1 rfl rfl rfl rfl TWBS4.s2 mm0 rfl ?_
        refine TO.assign rfl rfl rfl rfl ?_
        refine TO.done ?_
        refine X.seq_normal ?_
        refine T.seq ?_
        refine T.seq ?_
        refine T.regionL (ll := [0, 1]) rfl ?_
        refine TO.move rfl rfl rfl rfl ?_
        refine TO.bin rfl rfl rfl rfl rfl rfl ?_
        refine TO.done ?_
        refine X.seq_normal ?_
        refine T.meetSE1 (fun (c38 : Int) => m_acequialow_Some_j3 n0 arcs2 r6 Arcs20 x30 c38 = some r_2) (fun (c38 : Int) => [(6, .pointer (some ⟨b3, 0, none⟩)), (7, .pointer (some ⟨b9, 0, none⟩)), (9, .pointer (some ⟨b33, 0, none⟩)), (10, .int .i64 c38), (49, .slice n0f3_b ((min (n0.Arcs.length : Int) arcs2).toNat) n0f3_c), (50, .int .i64 ((n0.Arcs.take (min (n0.Arcs.length : Int) arcs2).toNat).length : Int)), (51, .int .i64 x30)]) (fun (c38 : Int) => [(some b3, .cells #[.int .i64 0, .int .i64 0, .int .i64 0, .slice none 0 0] 24 (0, 0)), (some b9, .cells #[.int .i64 (2 + r6), .int .i64 r11, .int .i64 T18, .slice (sb ob23) n21 c22] 24 (0, 0)), (ob23, .cells (arr arcC Arcs20 j24).toArray 67 (0, 0)), (some b33, .cells #[.int .i64 (((n0.Arcs.take (min (n0.Arcs.length : Int) arcs2).toNat).getD x30.toNat default).fr), .int .i64 (((n0.Arcs.take (min (n0.Arcs.length : Int) arcs2).toNat).getD x30.toNat default).to), .int .i64 (((n0.Arcs.take (min (n0.Arcs.length : Int) arcs2).toNat).getD x30.toNat default).cap)] 67 (0, 0))]) ?_ ?_
        ·
          rcases ite_some H with ⟨g35, H⟩ | ⟨g35, H⟩
          ·
            refine T.condPT rfl g35 ?_
            obtain ⟨g36, H⟩ := gd_some H
            obtain ⟨g37, H⟩ := gd_some H
            refine T.regionL (ll := [0, 1, 2, 3]) rfl ?_
            refine TO.move rfl rfl rfl rfl ?_
            refine TO.addG g36 rfl rfl rfl rfl rfl ?_
            refine TO.negG g37 rfl rfl rfl rfl ?_
            refine TO.assign rfl rfl rfl rfl ?_
            refine TO.done ?_
            exact X.metE1 (-((((n0.Arcs.take (min (n0.Arcs.length : Int) arcs2).toNat).getD x30.toNat default).cap) + 1)) H (AllF.cons rfl (AllF.cons rfl (AllF.cons rfl (AllF.cons rfl (AllF.cons rfl (AllF.cons rfl (AllF.cons rfl AllF.nil))))))) (Pick.cons tk1 (Pick.cons tk1 (Pick.cons tk1 (Pick.cons tk0 Pick.nil))))
          ·
            refine T.condPF rfl g35 ?_
            refine T.skip ?_
            exact X.metE1 (((n0.Arcs.take (min (n0.Arcs.length : Int) arcs2).toNat).getD x30.toNat default).cap) H (AllF.cons rfl (AllF.cons rfl (AllF.cons rfl (AllF.cons rfl (AllF.cons rfl (AllF.cons rfl (AllF.cons rfl AllF.nil))))))) (Pick.cons tk1 (Pick.cons tk1 (Pick.cons tk1 (Pick.cons tk0 Pick.nil))))
        · rintro c38 H
          unfold m_acequialow_Some_j3 at H
          obtain ⟨r39, e40, H⟩ := bd_some H
          obtain ⟨r41, e42, H⟩ := bd_some H
          obtain ⟨g45, H⟩ := gd_some H
          apply T.drawL [⟨[], false, [], relV _⟩, ⟨[0], false, [], relV _⟩, ⟨[], false, [], relV _⟩, ⟨[2], false, [], relV _⟩, ⟨[], false, [], relV _⟩, ⟨[4], false, [], relV _⟩, ⟨[3, 5], false, [], relV _⟩, ⟨[], false, [], relV _⟩, ⟨[7], false, [], relV _⟩, ⟨[], false, [], relV _⟩, ⟨[9], false, [], relV _⟩, ⟨[8, 10], false, [], relV _⟩, ⟨[], false, [], relV _⟩, ⟨[12], false, [], relV _⟩, ⟨[6, 11, 13], false, [], relV _⟩, ⟨[14], false, [], fun _ v e => ∃ (b43 : Nat), v = .slice (some ⟨b43, 0, none⟩) 1 1 ∧ e = [(some b43, .cells (arr arcC ([(Arc.mk r39 r41 (c38.tmod 1125899906842624))]) ([])).toArray 67 (0, 0))]⟩] [62, 63, 64, 65, 66, 67, 68, 69, 70, 71, 72, 73, 74, 75, 76, 77] 16 (HRk [[]]) [[]] [] [(some b3, .cells #[.int .i64 0, .int .i64 0, .int .i64 0, .slice none 0 0] 24 (0, 0)), (some b9, .cells #[.int .i64 (2 + r6), .int .i64 r11, .int .i64 T18, .slice (sb ob23) n21 c22] 24 (0, 0)), (ob23, .cells (arr arcC Arcs20 j24).toArray 67 (0, 0)), (some b33, .cells #[.int .i64 (((n0.Arcs.take (min (n0.Arcs.length : Int) arcs2).toNat).getD x30.toNat default).fr), .int .i64 (((n0.Arcs.take (min (n0.Arcs.length : Int) arcs2).toNat).getD x30.toNat default).to), .int .i64 (((n0.Arcs.take (min (n0.Arcs.length : Int) arcs2).toNat).getD x30.toNat default).cap)] 67 (0, 0))]
          · exact mixed
          · exact rfl
          · kernel_rfl
          · kernel_rfl
          · kernel_rfl
          · exact rfl
          · exact rfl
          · exact rfl
          · exact rfl
          · exact (by repeat (first | exact Pick.refl _ | exact Pick.nil | apply Pick.none | refine Pick.cons (by repeat (first | exact Take.head _ _ | apply Take.tail)) ?_))
          · refine ⟨?_, ?_, ?_, ?_, ?_, ?_, ?_, ?_, ?_, ?_, ?_, ?_, ?_, ?_, ?_, ?_, trivial⟩
            · rintro vs es Es Hx -
              refine TO.reenv (D := []) rfl ?_
              refine TO.fieldAddr0 rfl rfl rfl rfl TWBS4.f24_3 ?_
              refine TO.done ?_; exact X.obQ rfl ⟨rfl, rfl⟩ (Pick.refl _) rfl
            · rintro vs es Es Hx ⟨⟨h_0, e_0⟩, -⟩
              refine TO.reenv (D := [(62, vs 0)]) rfl ?_; rw [h_0]
              refine TO.load1 rfl rfl rfl rfl TWBS4.s22 mm1 rfl ?_
              refine TO.done ?_; exact X.obQ rfl ⟨rfl, rfl⟩ (Pick.refl _) (by show [(62, vs 0)] = _; rw [h_0])
            · rintro vs es Es Hx -
              refine TO.reenv (D := []) rfl ?_
              refine TO.fieldAddr0 rfl rfl rfl rfl TWBS4.f67_0 ?_
              refine TO.done ?_; exact X.obQ rfl ⟨rfl, rfl⟩ (Pick.refl _) rfl
            · rintro vs es Es Hx ⟨⟨h_2, e_2⟩, -⟩
              refine TO.reenv (D := [(64, vs 2)]) rfl ?_; rw [h_2]
              refine TO.load1 rfl rfl rfl rfl TWBS4.s3 mm3 rfl ?_
              refine TO.done ?_; exact X.obQ rfl ⟨rfl, rfl⟩ (Pick.refl _) (by show [(64, vs 2)] = _; rw [h_2])
            · rintro vs es Es Hx -
              refine TO.reenv (D := []) rfl ?_
              refine TO.fieldAddr0 rfl rfl rfl rfl TWBS4.f24_0 ?_
              refine TO.done ?_; exact X.obQ rfl ⟨rfl, rfl⟩ (Pick.refl _) rfl
            · rintro vs es Es Hx ⟨⟨h_4, e_4⟩, -⟩
              refine TO.reenv (D := [(66, vs 4)]) rfl ?_; rw [h_4]
              refine TO.load1 rfl rfl rfl rfl TWBS4.s3 mm1 rfl ?_
              refine TO.done ?_; exact X.obQ rfl ⟨rfl, rfl⟩ (Pick.refl _) (by show [(66, vs 4)] = _; rw [h_4])
            · rintro vs es Es Hx ⟨⟨h_3, e_3⟩, ⟨h_5, e_5⟩, -⟩
              refine TO.reenv (D := [(65, vs 3), (67, vs 5)]) rfl ?_; rw [h_3, h_5]
              refine TO.callX TWBS4.c57 rfl rfl rfl rfl (fun wc hwc => w_acequialow_Among (x0 := ((n0.Arcs.take (min (n0.Arcs.length : Int) arcs2).toNat).getD x30.toNat default).fr) (n1 := (2 + r6)) wc  e40) ?_
              rintro _ _ ⟨rfl, rfl⟩
              refine TO.done ?_; exact X.obQ rfl ⟨rfl, rfl⟩ (Pick.refl _) (by show [(65, vs 3), (67, vs 5)] = _; rw [h_3, h_5])
            · rintro vs es Es Hx -
              refine TO.reenv (D := []) rfl ?_
              refine TO.fieldAddr0 rfl rfl rfl rfl TWBS4.f67_1 ?_
              refine TO.done ?_; exact X.obQ rfl ⟨rfl, rfl⟩ (Pick.refl _) rfl
            · rintro vs es Es Hx ⟨⟨h_7, e_7⟩, -⟩
              refine TO.reenv (D := [(69, vs 7)]) rfl ?_; rw [h_7]
              refine TO.load1 rfl rfl rfl rfl TWBS4.s3 mm3 rfl ?_
              refine TO.done ?_; exact X.obQ rfl ⟨rfl, rfl⟩ (Pick.refl _) (by show [(69, vs 7)] = _; rw [h_7])
            · rintro vs es Es Hx -
              refine TO.reenv (D := []) rfl ?_
              refine TO.fieldAddr0 rfl rfl rfl rfl TWBS4.f24_0 ?_
              refine TO.done ?_; exact X.obQ rfl ⟨rfl, rfl⟩ (Pick.refl _) rfl
            · rintro vs es Es Hx ⟨⟨h_9, e_9⟩, -⟩
              refine TO.reenv (D := [(71, vs 9)]) rfl ?_; rw [h_9]
              refine TO.load1 rfl rfl rfl rfl TWBS4.s3 mm1 rfl ?_
              refine TO.done ?_; exact X.obQ rfl ⟨rfl, rfl⟩ (Pick.refl _) (by show [(71, vs 9)] = _; rw [h_9])
            · rintro vs es Es Hx ⟨⟨h_8, e_8⟩, ⟨h_10, e_10⟩, -⟩
              refine TO.reenv (D := [(70, vs 8), (72, vs 10)]) rfl ?_; rw [h_8, h_10]
              refine TO.callX TWBS4.c57 rfl rfl rfl rfl (fun wc hwc => w_acequialow_Among (x0 := ((n0.Arcs.take (min (n0.Arcs.length : Int) arcs2).toNat).getD x30.toNat default).to) (n1 := (2 + r6)) wc  e42) ?_
              rintro _ _ ⟨rfl, rfl⟩
              refine TO.done ?_; exact X.obQ rfl ⟨rfl, rfl⟩ (Pick.refl _) (by show [(70, vs 8), (72, vs 10)] = _; rw [h_8, h_10])
            · rintro vs es Es Hx -
              refine TO.reenv (D := []) rfl ?_
              refine TO.move rfl rfl rfl rfl ?_
              refine TO.done ?_; exact X.obQ rfl ⟨rfl, rfl⟩ (Pick.refl _) rfl
            · rintro vs es Es Hx ⟨⟨h_12, e_12⟩, -⟩
              refine TO.reenv (D := [(74, vs 12)]) rfl ?_; rw [h_12]
              refine TO.rem rfl rfl rfl rfl rfl (by decide) ?_
              refine TO.done ?_; exact X.obQ rfl ⟨rfl, rfl⟩ (Pick.refl _) (by show [(74, vs 12)] = _; rw [h_12])
            · rintro vs es Es Hx ⟨⟨h_6, e_6⟩, ⟨h_11, e_11⟩, ⟨h_13, e_13⟩, -⟩
              refine TO.reenv (D := [(68, vs 6), (73, vs 11), (75, vs 13)]) rfl ?_; rw [h_6, h_11, h_13]
              refine TO.buildS (t := 67) [.int .i64 0, .int .i64 0, .int .i64 0] [0, 1, 2] rfl rfl rfl rfl (by simp only [setAll, setCells, Value.cells, List.toList_toArray, List.getD_cons_zero, List.getD_cons_succ, List.set_cons_zero, List.set_cons_succ]; rfl) (by kernel_rfl) ?_
              refine TO.done ?_; exact X.obQ rfl ⟨rfl, rfl⟩ (Pick.refl _) (by show [(68, vs 6), (73, vs 11), (75, vs 13)] = _; rw [h_6, h_11, h_13])
            · rintro vs es Es Hx ⟨⟨h_14, e_14⟩, -⟩
              refine TO.reenv (D := [(76, vs 14)]) rfl ?_; rw [h_14]
              refine TO.buildSliceS [.int .i64 0, .int .i64 0, .int .i64 0] [0] rfl rfl rfl rfl TWBS4.l22 TWBS4.n67 TWBS4.z67 rfl rfl (by simp only [setAll, setCells, Value.cells, List.toList_toArray, List.getD_cons_zero, List.getD_cons_succ, List.set_cons_zero, List.set_cons_succ]; rfl) (by kernel_rfl) ?_; intro b43
              refine TO.done ?_; exact X.obQ rfl ⟨b43, rfl, rfl⟩ (by repeat (first | exact Pick.refl _ | exact Pick.nil | apply Pick.none | refine Pick.cons (by repeat (first | exact Take.head _ _ | apply Take.tail)) ?_)) (by show [(76, vs 14)] = _; rw [h_14])
          · rintro vs es hb ⟨⟨h_0, e_0⟩, ⟨h_1, e_1⟩, ⟨h_2, e_2⟩, ⟨h_3, e_3⟩, ⟨h_4, e_4⟩, ⟨h_5, e_5⟩, ⟨h_6, e_6⟩, ⟨h_7, e_7⟩, ⟨h_8, e_8⟩, ⟨h_9, e_9⟩, ⟨h_10, e_10⟩, ⟨h_11, e_11⟩, ⟨h_12, e_12⟩, ⟨h_13, e_13⟩, ⟨h_14, e_14⟩, ⟨b43, h_15, e_15⟩, -⟩ hHR
            obtain rfl : hb = [] := hHR
            refine TO.reenv (D := [(62, vs 0), (63, vs 1), (64, vs 2), (65, vs 3), (66, vs 4), (67, vs 5), (68, vs 6), (69, vs 7), (70, vs 8), (71, vs 9), (72, vs 10), (73, vs 11), (74, vs 12), (75, vs 13), (76, vs 14), (77, vs 15)]) rfl ?_
            refine TO.reheap (H := [(some b3, .cells #[.int .i64 0, .int .i64 0, .int .i64 0, .slice none 0 0] 24 (0, 0)), (some b9, .cells #[.int .i64 (2 + r6), .int .i64 r11, .int .i64 T18, .slice (sb ob23) n21 c22] 24 (0, 0)), (ob23, .cells (arr arcC Arcs20 j24).toArray 67 (0, 0)), (some b33, .cells #[.int .i64 (((n0.Arcs.take (min (n0.Arcs.length : Int) arcs2).toNat).getD x30.toNat default).fr), .int .i64 (((n0.Arcs.take (min (n0.Arcs.length : Int) arcs2).toNat).getD x30.toNat default).to), .int .i64 (((n0.Arcs.take (min (n0.Arcs.length : Int) arcs2).toNat).getD x30.toNat default).cap)] 67 (0, 0)), (some b43, .cells (arr arcC ([(Arc.mk r39 r41 (c38.tmod 1125899906842624))]) ([])).toArray 67 (0, 0))]) (by show _ ++ (_ ++ (es 0 ++ (es 1 ++ (es 2 ++ (es 3 ++ (es 4 ++ (es 5 ++ (es 6 ++ (es 7 ++ (es 8 ++ (es 9 ++ (es 10 ++ (es 11 ++ (es 12 ++ (es 13 ++ (es 14 ++ (es 15 ++ ([])))))))))))))))))) = _; rw [e_0, e_1, e_2, e_3, e_4, e_5, e_6, e_7, e_8, e_9, e_10, e_11, e_12, e_13, e_14, e_15]; rfl) ?_
            rw [h_0, h_1, h_2, h_3, h_4, h_5, h_6, h_7, h_8, h_9, h_10, h_11, h_12, h_13, h_14, h_15]
            clear h_15 h_14 h_13 h_12 h_11 h_10 h_9 h_8 h_7 h_6 h_5 h_4 h_3 h_2 h_1 h_0 e_0 e_1 e_2 e_3 e_4 e_5 e_6 e_7 e_8 e_9 e_10 e_11 e_12 e_13 e_14 e_15
            refine TO.app (f := arcC) (s := 3) (xs := Arcs20) (ob := ob23) (j := j24) (ys := [(Arc.mk r39 r41 (c38.tmod 1125899906842624))]) (fun _ => rfl) (fun _ => rfl) TWBS4el22 g45 rfl rfl rfl rfl rfl tk2 hn25 hc26 hj27 hz28 (fun wc hwc => (hwc.rs (f := arcC) (s := 3) (xs := [(Arc.mk r39 r41 (c38.tmod 1125899906842624))]) (j := ([])) (fun _ => rfl) mm4 rfl (Nat.le_refl _) someZ)) ?_; intro ob46 c47 j48 hc49 hj50 hz51
            refine TO.fieldAddr0 rfl rfl rfl rfl TWBS4.f24_3 ?_
            refine TO.store1n (cs' := [.int .i64 (2 + r6), .int .i64 r11, .int .i64 T18, .slice (sb ob46) (n21 + 1) c47]) rfl rfl rfl rfl tk2 TWBS4.n22 rfl rfl rfl ?_
            refine TO.done ?_
            refine X.block_normal ?_
            refine X.seq_normal ?_
            refine T.trim (AllF.cons (t := 6) rfl (AllF.cons (t := 7) rfl (AllF.cons (t := 49) rfl (AllF.cons (t := 50) rfl (AllF.cons (t := 51) rfl AllF.nil))))) ?_
            obtain ⟨g53, H⟩ := gd_some H
            refine T.regionL (ll := [0, 1]) rfl ?_
            refine TO.addG g53 rfl rfl rfl rfl rfl ?_
            refine TO.move rfl rfl rfl rfl ?_
            refine TO.done ?_
            have H := loop_next H C_2
            exact X.againE7 n_2 (Arcs20 ++ ([(Arc.mk r39 r41 (c38.tmod 1125899906842624))])) (n21 + 1) c47 ob46 j48 (x30 + 1) ⟨H, (lenApp hn25 rfl), hc49, hj50, hz51⟩ (Nat.lt_succ_self _) (AllF.cons rfl (AllF.cons rfl (AllF.cons rfl (AllF.cons rfl (AllF.cons rfl AllF.nil))))) (Pick.cons tk2 (Pick.cons tk0 (Pick.cons tk0 Pick.nil)))
      ·
        refine T.condPF rfl g31 ?_
        refine T.exit ?_
        refine X.then_exit ?_
        have H := loop_exitE H C_2 ▸ K_2
        refine X.then_exit ?_
        refine X.block_here ?_
        exact X.metE5 Arcs20 n21 c22 ob23 j24 ⟨H, hn25, hc26, hj27, hz28⟩ (AllF.cons rfl (AllF.cons rfl AllF.nil)) (Pick.cons tk0 (Pick.cons tk0 (Pick.cons tk0 Pick.nil)))
    · rintro Arcs54 n55 c56 ob57 j58 ⟨H, hn59, hc60, hj61, hz62⟩
      unfold m_acequialow_Some_j4 at H
      refine T.seq ?_
      refine T.regionL (ll := [0, 1]) rfl ?_
      refine TO.loadA rfl rfl rfl rfl TWBS4.a24 mm1 rfl ?_
      refine TO.storeA rfl rfl rfl rfl tk0 TWBS4.n24 rfl rfl rfl ?_
      refine TO.done ?_
      refine X.seq_normal ?_
      refine T.ret ?_
      obtain rfl := ret1 H
      exact X.ret1 rfl rfl rfl rfl (Res.cellA rfl TWBS4.a24 mm0 rfl) (Pick.cons tk2 Pick.nil) ⟨ob57, n55, c56, j58, rfl, rfl, hn59, hc60, hj61, hz62⟩
/-- acequia/net.of -/
theorem w_net_of_rules_4 (w : World) (H : m_net_of_rules_4 = some ()) : Fnc Try.prog 115 #[.func (.func 116) #[] #[]] w [] (fun v N => ∃ (b_0 : Nat), v = .func (.func 121) #[] #[.pointer (some ⟨b_0, 0, none⟩)] ∧ N = [(some b_0, .cells #[.func (.func 116) #[] #[]] 148 (0, 0))]) := by
  unfold m_net_of_rules_4 at H
  refine Fnc.enter (vs := [.func (.func 116) #[] #[]]) Try.func115 rfl rfl (Inv.refl w) ?_
  refine T.seq ?_
  refine T.regionL (ll := [0, 1]) rfl ?_
  refine TO.box rfl rfl rfl rfl ?_; intro b1
  refine TO.assign rfl rfl rfl rfl ?_
  refine TO.done ?_
  refine X.seq_normal ?_
  refine T.seq ?_
  refine T.regionL (ll := [0, 1]) rfl ?_
  refine TO.makeFunc rfl rfl rfl rfl rfl ?_
  refine TO.assign rfl rfl rfl rfl ?_
  refine TO.done ?_
  refine X.seq_normal ?_
  refine T.ret ?_
  exact X.ret1 rfl rfl rfl rfl (Res.tmp rfl) (Pick.cons tk0 Pick.nil) ⟨b1, rfl, rfl⟩
/-- acequia/net.of -/
theorem w_net_of_rules_5 (w : World) (H : m_net_of_rules_5 = some ()) : Fnc Try.prog 115 #[.func (.func 117) #[] #[]] w [] (fun v N => ∃ (b_0 : Nat), v = .func (.func 121) #[] #[.pointer (some ⟨b_0, 0, none⟩)] ∧ N = [(some b_0, .cells #[.func (.func 117) #[] #[]] 148 (0, 0))]) := by
  unfold m_net_of_rules_5 at H
  refine Fnc.enter (vs := [.func (.func 117) #[] #[]]) Try.func115 rfl rfl (Inv.refl w) ?_
  refine T.seq ?_
  refine T.regionL (ll := [0, 1]) rfl ?_
  refine TO.box rfl rfl rfl rfl ?_; intro b1
  refine TO.assign rfl rfl rfl rfl ?_
  refine TO.done ?_
  refine X.seq_normal ?_
  refine T.seq ?_
  refine T.regionL (ll := [0, 1]) rfl ?_
  refine TO.makeFunc rfl rfl rfl rfl rfl ?_
  refine TO.assign rfl rfl rfl rfl ?_
  refine TO.done ?_
  refine X.seq_normal ?_
  refine T.ret ?_
  exact X.ret1 rfl rfl rfl rfl (Res.tmp rfl) (Pick.cons tk0 Pick.nil) ⟨b1, rfl, rfl⟩
/-- acequia/net.rules -/
theorem w_net_rules (w : World) (H : m_net_rules = some ()) : Fnc Try.prog 102 #[] w [] (fun v N => ∃ (b_0 : Nat) (b_1 : Nat), v = .agg #[.func (.func 111) #[] #[], .int .i64 10, .func (.func 112) #[] #[], .int .i64 11, .func (.func 113) #[] #[], .int .i64 12, .func (.func 121) #[] #[.pointer (some ⟨b_0, 0, none⟩)], .int .i64 13, .func (.func 121) #[] #[.pointer (some ⟨b_1, 0, none⟩)], .int .i64 14, .func (.func 118) #[] #[], .int .i64 15] ∧ N = [(some b_0, .cells #[.func (.func 116) #[] #[]] 148 (0, 0)), (some b_1, .cells #[.func (.func 117) #[] #[]] 148 (0, 0))]) := by
  unfold m_net_rules at H
  refine Fnc.enter (vs := []) Try.func102 rfl rfl (Inv.refl w) ?_
  refine T.seq ?_
  refine T.regionL (ll := [0]) rfl ?_
  refine TO.allocA rfl rfl rfl TWBS4.z137 ?_; intro b1
  refine TO.done ?_
  refine X.seq_normal ?_
  refine T.seq ?_
  obtain ⟨⟨⟩, e3, H⟩ := bd_some H
  obtain ⟨⟨⟩, e6, H⟩ := bd_some H
  refine T.regionL (ll := [0, 1, 2, 3, 4, 5, 6, 7, 8, 9]) rfl ?_
  refine TO.buildS (t := 136) [.nilFunc, .int .i64 0] [0, 1] rfl rfl rfl rfl (by simp only [setAll, setCells, Value.cells, List.toList_toArray, List.getD_cons_zero, List.getD_cons_succ, List.set_cons_zero, List.set_cons_succ]; rfl) (by kernel_rfl) ?_
  refine TO.buildS (t := 136) [.nilFunc, .int .i64 0] [0, 1] rfl rfl rfl rfl (by simp only [setAll, setCells, Value.cells, List.toList_toArray, List.getD_cons_zero, List.getD_cons_succ, List.set_cons_zero, List.set_cons_succ]; rfl) (by kernel_rfl) ?_
  refine TO.buildS (t := 136) [.nilFunc, .int .i64 0] [0, 1] rfl rfl rfl rfl (by simp only [setAll, setCells, Value.cells, List.toList_toArray, List.getD_cons_zero, List.getD_cons_succ, List.set_cons_zero, List.set_cons_succ]; rfl) (by kernel_rfl) ?_
  refine TO.callX TWBS4.c115 rfl rfl rfl rfl (fun wc hwc => w_net_of_rules_4  wc  e3) ?_
  rintro _ _ ⟨b4, rfl, rfl⟩
  refine TO.buildS (t := 136) [.nilFunc, .int .i64 0] [0, 1] rfl rfl rfl rfl (by simp only [setAll, setCells, Value.cells, List.toList_toArray, List.getD_cons_zero, List.getD_cons_succ, List.set_cons_zero, List.set_cons_succ]; rfl) (by kernel_rfl) ?_
  refine TO.callX TWBS4.c115 rfl rfl rfl rfl (fun wc hwc => w_net_of_rules_5  wc  e6) ?_
  rintro _ _ ⟨b7, rfl, rfl⟩
  refine TO.buildS (t := 136) [.nilFunc, .int .i64 0] [0, 1] rfl rfl rfl rfl (by simp only [setAll, setCells, Value.cells, List.toList_toArray, List.getD_cons_zero, List.getD_cons_succ, List.set_cons_zero, List.set_cons_succ]; rfl) (by kernel_rfl) ?_
  refine TO.buildS (t := 136) [.nilFunc, .int .i64 0] [0, 1] rfl rfl rfl rfl (by simp only [setAll, setCells, Value.cells, List.toList_toArray, List.getD_cons_zero, List.getD_cons_succ, List.set_cons_zero, List.set_cons_succ]; rfl) (by kernel_rfl) ?_
  refine TO.buildS (t := 137) [.nilFunc, .int .i64 0, .nilFunc, .int .i64 0, .nilFunc, .int .i64 0, .nilFunc, .int .i64 0, .nilFunc, .int .i64 0, .nilFunc, .int .i64 0] [0, 2, 4, 6, 8, 10] rfl rfl rfl rfl (by simp only [setAll, setCells, Value.cells, List.toList_toArray, List.getD_cons_zero, List.getD_cons_succ, List.set_cons_zero, List.set_cons_succ]; rfl) (by kernel_rfl) ?_
  refine TO.storeA rfl rfl rfl rfl tk2 TWBS4.n137 rfl rfl rfl ?_
  refine TO.done ?_
  refine X.seq_normal ?_
  refine T.trim (AllF.cons (t := 0) rfl AllF.nil) ?_
  refine T.ret ?_
  exact X.ret1 rfl rfl rfl rfl (Res.cellA rfl TWBS4.a137 mm0 rfl) (Pick.cons tk2 (Pick.cons tk1 Pick.nil)) ⟨b4, b7, rfl, rfl⟩
/-- acequia/net.rules$1 -/
theorem w_net_rules_1 {n0 : Net} {n0f3_b : Option Addr} {n0f3_n : Nat} {n0f3_c : Nat} (w : World) (h_n0f3 : RS w [] arcC 3 n0f3_b n0f3_n n0f3_c n0.Arcs) {r0 : Bool} (H : m_net_rules_1 n0 = some r0) : Fnc Try.prog 111 #[.agg #[.int .i64 n0.N, .int .i64 n0.S, .int .i64 n0.T, .slice n0f3_b n0f3_n n0f3_c]] w [] (fun v N => v = .bool r0 ∧ N = []) := by
  unfold m_net_rules_1 at H
  refine Fnc.enter (vs := [.agg #[.int .i64 n0.N, .int .i64 n0.S, .int .i64 n0.T, .slice n0f3_b n0f3_n n0f3_c]]) Try.func111 rfl rfl (Inv.refl w) ?_
  refine T.seq ?_
  refine T.regionL (ll := [0, 1]) rfl ?_
  refine TO.boxA rfl rfl rfl rfl ?_; intro b1
  refine TO.assign rfl rfl rfl rfl ?_
  refine TO.done ?_
  refine X.seq_normal ?_
  refine T.seq ?_
  rcases ite_some H with ⟨g3, H⟩ | ⟨g3, H⟩
  ·
    refine T.regionL (ll := [0, 1, 2, 3, 4, 5, 6, 7, 8]) rfl ?_
    refine TO.fieldAddr0 rfl rfl rfl rfl TWBS4.f24_0 ?_
    refine TO.load1 rfl rfl rfl rfl TWBS4.s3 mm0 rfl ?_
    refine TO.bin rfl rfl rfl rfl rfl rfl ?_
    refine TO.move rfl rfl rfl rfl ?_
    refine TO.decB (t := 6) (b' := true) rfl (decide_eq_true g3) ?_
    refine TO.fieldAddr0 rfl rfl rfl rfl TWBS4.f24_0 ?_
    refine TO.load1 rfl rfl rfl rfl TWBS4.s3 mm0 rfl ?_
    refine TO.bin rfl rfl rfl rfl rfl rfl ?_
    refine TO.pickT rfl rfl rfl rfl rfl ?_
    refine TO.assign rfl rfl rfl rfl ?_
    refine TO.done ?_
    refine X.seq_normal ?_
    refine T.trim (AllF.cons (t := 2) rfl AllF.nil) ?_
    refine T.ret ?_
    obtain rfl := ret1 H
    exact X.ret1 rfl rfl rfl rfl (Res.tmp rfl) Pick.nil ⟨rfl, rfl⟩
  ·
    refine T.regionL (ll := [0, 1, 2, 3, 4, 5, 6, 7, 8]) rfl ?_
    refine TO.fieldAddr0 rfl rfl rfl rfl TWBS4.f24_0 ?_
    refine TO.load1 rfl rfl rfl rfl TWBS4.s3 mm0 rfl ?_
    refine TO.bin rfl rfl rfl rfl rfl rfl ?_
    refine TO.move rfl rfl rfl rfl ?_
    refine TO.decB (t := 6) (b' := false) rfl (decide_eq_false g3) ?_
    refine TO.shut rfl rfl rfl rfl ?_
    refine TO.shut rfl rfl rfl rfl ?_
    refine TO.shut rfl rfl rfl rfl ?_
    refine TO.pickF rfl rfl rfl rfl rfl ?_
    refine TO.assign rfl rfl rfl rfl ?_
    refine TO.done ?_
    refine X.seq_normal ?_
    refine T.trim (AllF.cons (t := 2) rfl AllF.nil) ?_
    refine T.ret ?_
    obtain rfl := ret1 H
    exact X.ret1 rfl rfl rfl rfl (Res.tmp rfl) Pick.nil ⟨rfl, rfl⟩
/-- acequia/net.rules$2 -/
theorem w_net_rules_2 {n0 : Net} {n0f3_b : Option Addr} {n0f3_n : Nat} {n0f3_c : Nat} (w : World) (h_n0f3 : RS w [] arcC 3 n0f3_b n0f3_n n0f3_c n0.Arcs) {r0 : Bool} (H : m_net_rules_2 n0 = some r0) : Fnc Try.prog 112 #[.agg #[.int .i64 n0.N, .int .i64 n0.S, .int .i64 n0.T, .slice n0f3_b n0f3_n n0f3_c]] w [] (fun v N => v = .bool r0 ∧ N = []) := by
  unfold m_net_rules_2 at H
  refine Fnc.enter (vs := [.agg #[.int .i64 n0.N, .int .i64 n0.S, .int .i64 n0.T, .slice n0f3_b n0f3_n n0f3_c]]) Try.func112 rfl rfl (Inv.refl w) ?_
  refine T.seq ?_
  refine T.regionL (ll := [0, 1]) rfl ?_
  refine TO.boxA rfl rfl rfl rfl ?_; intro b1
  refine TO.assign rfl rfl rfl rfl ?_
  refine TO.done ?_
  refine X.seq_normal ?_
  refine T.seq ?_
  refine T.regionL (ll := [0, 1, 2, 3, 4]) rfl ?_
  refine TO.fieldAddr0 rfl rfl rfl rfl TWBS4.f24_3 ?_
  refine TO.load1 rfl rfl rfl rfl TWBS4.s22 mm0 rfl ?_
  refine TO.lenX (xs := n0.Arcs) h_n0f3.len rfl rfl rfl rfl rfl TWBS4.l22 ?_
  refine TO.bin rfl rfl rfl rfl rfl rfl ?_
  refine TO.assign rfl rfl rfl rfl ?_
  refine TO.done ?_
  refine X.seq_normal ?_
  refine T.ret ?_
  obtain rfl := ret1 H
  exact X.ret1 rfl rfl rfl rfl (Res.tmp rfl) Pick.nil ⟨rfl, rfl⟩
/-- acequia/net.vertex -/
theorem w_net_vertex {n0 : Net} {v1 : Int} {n0f3_b : Option Addr} {n0f3_n : Nat} {n0f3_c : Nat} (w : World) (h_n0f3 : RS w [] arcC 3 n0f3_b n0f3_n n0f3_c n0.Arcs) {r0 : Bool} (H : m_net_vertex n0 v1 = some r0) : Fnc Try.prog 114 #[.agg #[.int .i64 n0.N, .int .i64 n0.S, .int .i64 n0.T, .slice n0f3_b n0f3_n n0f3_c], .int .i64 v1] w [] (fun v N => v = .bool r0 ∧ N = []) := by
  unfold m_net_vertex at H
  refine Fnc.enter (vs := [.agg #[.int .i64 n0.N, .int .i64 n0.S, .int .i64 n0.T, .slice n0f3_b n0f3_n n0f3_c], .int .i64 v1]) Try.func114 rfl rfl (Inv.refl w) ?_
  refine T.seq ?_
  refine T.regionL (ll := [0, 1]) rfl ?_
  refine TO.boxA rfl rfl rfl rfl ?_; intro b1
  refine TO.assign rfl rfl rfl rfl ?_
  refine TO.done ?_
  refine X.seq_normal ?_
  refine T.seq ?_
  rcases ite_some H with ⟨g3, H⟩ | ⟨g3, H⟩
  ·
    refine T.regionL (ll := [0, 1, 2, 3, 4, 5, 6, 7, 8]) rfl ?_
    refine TO.move rfl rfl rfl rfl ?_
    refine TO.bin rfl rfl rfl rfl rfl rfl ?_
    refine TO.move rfl rfl rfl rfl ?_
    refine TO.decB (t := 7) (b' := true) rfl (decide_eq_true g3) ?_
    refine TO.move rfl rfl rfl rfl ?_
    refine TO.fieldAddr0 rfl rfl rfl rfl TWBS4.f24_0 ?_
    refine TO.load1 rfl rfl rfl rfl TWBS4.s3 mm0 rfl ?_
    refine TO.bin rfl rfl rfl rfl rfl rfl ?_
    refine TO.pickT rfl rfl rfl rfl rfl ?_
    refine TO.assign rfl rfl rfl rfl ?_
    refine TO.done ?_
    refine X.seq_normal ?_
    refine T.trim (AllF.cons (t := 4) rfl AllF.nil) ?_
    refine T.ret ?_
    obtain rfl := ret1 H
    exact X.ret1 rfl rfl rfl rfl (Res.tmp rfl) Pick.nil ⟨rfl, rfl⟩
  ·
    refine T.regionL (ll := [0, 1, 2, 3, 4, 5, 6, 7, 8]) rfl ?_
    refine TO.move rfl rfl rfl rfl ?_
    refine TO.bin rfl rfl rfl rfl rfl rfl ?_
    refine TO.move rfl rfl rfl rfl ?_
    refine TO.decB (t := 7) (b' := false) rfl (decide_eq_false g3) ?_
    refine TO.shut rfl rfl rfl rfl ?_
    refine TO.shut rfl rfl rfl rfl ?_
    refine TO.shut rfl rfl rfl rfl ?_
    refine TO.shut rfl rfl rfl rfl ?_
    refine TO.pickF rfl rfl rfl rfl rfl ?_
    refine TO.assign rfl rfl rfl rfl ?_
    refine TO.done ?_
    refine X.seq_normal ?_
    refine T.trim (AllF.cons (t := 4) rfl AllF.nil) ?_
    refine T.ret ?_
    obtain rfl := ret1 H
    exact X.ret1 rfl rfl rfl rfl (Res.tmp rfl) Pick.nil ⟨rfl, rfl⟩
/-- acequia/net.rules$3 -/
theorem w_net_rules_3 {n0 : Net} {n0f3_b : Option Addr} {n0f3_n : Nat} {n0f3_c : Nat} (w : World) (h_n0f3 : RS w [] arcC 3 n0f3_b n0f3_n n0f3_c n0.Arcs) {r0 : Bool} (H : m_net_rules_3 n0 = some r0) : Fnc Try.prog 113 #[.agg #[.int .i64 n0.N, .int .i64 n0.S, .int .i64 n0.T, .slice n0f3_b n0f3_n n0f3_c]] w [] (fun v N => v = .bool r0 ∧ N = []) := by
  unfold m_net_rules_3 at H
  refine Fnc.enter (vs := [.agg #[.int .i64 n0.N, .int .i64 n0.S, .int .i64 n0.T, .slice n0f3_b n0f3_n n0f3_c]]) Try.func113 rfl rfl (Inv.refl w) ?_
  refine T.seq ?_
  refine T.regionL (ll := [0, 1]) rfl ?_
  refine TO.boxA rfl rfl rfl rfl ?_; intro b1
  refine TO.assign rfl rfl rfl rfl ?_
  refine TO.done ?_
  refine X.seq_normal ?_
  refine T.seq ?_
  obtain ⟨r3, e4, H⟩ := bd_some H
  rcases ite_some H with ⟨g5, H⟩ | ⟨g5, H⟩
  ·
    obtain ⟨r6, e7, H⟩ := bd_some H
    rcases ite_some H with ⟨g8, H⟩ | ⟨g8, H⟩
    ·
      refine T.regionL (ll := [0, 1, 2, 3, 4, 5, 6, 7, 8, 9, 10, 11, 12, 13, 14, 15, 16, 17]) rfl ?_
      refine TO.loadA rfl rfl rfl rfl TWBS4.a24 mm0 rfl ?_
      refine TO.fieldAddr0 rfl rfl rfl rfl TWBS4.f24_1 ?_
      refine TO.load1 rfl rfl rfl rfl TWBS4.s3 mm0 rfl ?_
      refine TO.callX TWBS4.c114 rfl rfl rfl rfl (fun wc hwc => w_net_vertex (n0 := n0) (v1 := n0.S) wc (h_n0f3.mono hwc) e4) ?_
      rintro _ _ ⟨rfl, rfl⟩
      refine TO.move rfl rfl rfl rfl ?_
      refine TO.decB (t := 7) (b' := true) rfl g5 ?_
      refine TO.loadA rfl rfl rfl rfl TWBS4.a24 mm0 rfl ?_
      refine TO.fieldAddr0 rfl rfl rfl rfl TWBS4.f24_2 ?_
      refine TO.load1 rfl rfl rfl rfl TWBS4.s3 mm0 rfl ?_
      refine TO.callX TWBS4.c114 rfl rfl rfl rfl (fun wc hwc => w_net_vertex (n0 := n0) (v1 := n0.T) wc (h_n0f3.mono hwc) e7) ?_
      rintro _ _ ⟨rfl, rfl⟩
      refine TO.pickT rfl rfl rfl rfl rfl ?_
      refine TO.move rfl rfl rfl rfl ?_
      refine TO.decB (t := 13) (b' := true) rfl g8 ?_
      refine TO.fieldAddr0 rfl rfl rfl rfl TWBS4.f24_1 ?_
      refine TO.load1 rfl rfl rfl rfl TWBS4.s3 mm0 rfl ?_
      refine TO.fieldAddr0 rfl rfl rfl rfl TWBS4.f24_2 ?_
      refine TO.load1 rfl rfl rfl rfl TWBS4.s3 mm0 rfl ?_
      refine TO.bin rfl rfl rfl rfl rfl rfl ?_
      refine TO.pickT rfl rfl rfl rfl rfl ?_
      refine TO.assign rfl rfl rfl rfl ?_
      refine TO.done ?_
      refine X.seq_normal ?_
      refine T.trim (AllF.cons (t := 2) rfl AllF.nil) ?_
      refine T.ret ?_
      obtain rfl := ret1 H
      exact X.ret1 rfl rfl rfl rfl (Res.tmp rfl) Pick.nil ⟨rfl, rfl⟩
    ·
      refine T.regionL (ll := [0, 1, 2, 3, 4, 5, 6, 7, 8, 9, 10, 11, 12, 13, 14, 15, 16, 17]) rfl ?_
      refine TO.loadA rfl rfl rfl rfl TWBS4.a24 mm0 rfl ?_
      refine TO.fieldAddr0 rfl rfl rfl rfl TWBS4.f24_1 ?_
      refine TO.load1 rfl rfl rfl rfl TWBS4.s3 mm0 rfl ?_
      refine TO.callX TWBS4.c114 rfl rfl rfl rfl (fun wc hwc => w_net_vertex (n0 := n0) (v1 := n0.S) wc (h_n0f3.mono hwc) e4) ?_
      rintro _ _ ⟨rfl, rfl⟩
      refine TO.move rfl rfl rfl rfl ?_
      refine TO.decB (t := 7) (b' := true) rfl g5 ?_
      refine TO.loadA rfl rfl rfl rfl TWBS4.a24 mm0 rfl ?_
      refine TO.fieldAddr0 rfl rfl rfl rfl TWBS4.f24_2 ?_
      refine TO.load1 rfl rfl rfl rfl TWBS4.s3 mm0 rfl ?_
      refine TO.callX TWBS4.c114 rfl rfl rfl rfl (fun wc hwc => w_net_vertex (n0 := n0) (v1 := n0.T) wc (h_n0f3.mono hwc) e7) ?_
      rintro _ _ ⟨rfl, rfl⟩
      refine TO.pickT rfl rfl rfl rfl rfl ?_
      refine TO.move rfl rfl rfl rfl ?_
      refine TO.decB (t := 13) (b' := false) rfl (Bool.eq_false_iff.2 g8) ?_
      refine TO.shut rfl rfl rfl rfl ?_
      refine TO.shut rfl rfl rfl rfl ?_
      refine TO.shut rfl rfl rfl rfl ?_
      refine TO.shut rfl rfl rfl rfl ?_
      refine TO.shut rfl rfl rfl rfl ?_
      refine TO.pickF rfl rfl rfl rfl rfl ?_
      refine TO.assign rfl rfl rfl rfl ?_
      refine TO.done ?_
      refine X.seq_normal ?_
      refine T.trim (AllF.cons (t := 2) rfl AllF.nil) ?_
      refine T.ret ?_
      obtain rfl := ret1 H
      exact X.ret1 rfl rfl rfl rfl (Res.tmp rfl) Pick.nil ⟨rfl, rfl⟩
  ·
    refine T.regionL (ll := [0, 1, 2, 3, 4, 5, 6, 7, 8, 9, 10, 11, 12, 13, 14, 15, 16, 17]) rfl ?_
    refine TO.loadA rfl rfl rfl rfl TWBS4.a24 mm0 rfl ?_
    refine TO.fieldAddr0 rfl rfl rfl rfl TWBS4.f24_1 ?_
    refine TO.load1 rfl rfl rfl rfl TWBS4.s3 mm0 rfl ?_
    refine TO.callX TWBS4.c114 rfl rfl rfl rfl (fun wc hwc => w_net_vertex (n0 := n0) (v1 := n0.S) wc (h_n0f3.mono hwc) e4) ?_
    rintro _ _ ⟨rfl, rfl⟩
    refine TO.move rfl rfl rfl rfl ?_
    refine TO.decB (t := 7) (b' := false) rfl (Bool.eq_false_iff.2 g5) ?_
    refine TO.shut rfl rfl rfl rfl ?_
    refine TO.shut rfl rfl rfl rfl ?_
    refine TO.shut rfl rfl rfl rfl ?_
    refine TO.shut rfl rfl rfl rfl ?_
    refine TO.pickF rfl rfl rfl rfl rfl ?_
    refine TO.move rfl rfl rfl rfl ?_
    refine TO.shut rfl rfl rfl rfl ?_
    refine TO.shut rfl rfl rfl rfl ?_
    refine TO.shut rfl rfl rfl rfl ?_
    refine TO.shut rfl rfl rfl rfl ?_
    refine TO.shut rfl rfl rfl rfl ?_
    refine TO.pickF rfl rfl rfl rfl rfl ?_
    refine TO.assign rfl rfl rfl rfl ?_
    refine TO.done ?_
    refine X.seq_normal ?_
    refine T.trim (AllF.cons (t := 2) rfl AllF.nil) ?_
    refine T.ret ?_
    obtain rfl := ret1 H
    exact X.ret1 rfl rfl rfl rfl (Res.tmp rfl) Pick.nil ⟨rfl, rfl⟩
/-- acequia/net.rules$4 -/
theorem w_net_rules_4 {n0 : Net} {a1 : Arc} {n0f3_b : Option Addr} {n0f3_n : Nat} {n0f3_c : Nat} (w : World) (h_n0f3 : RS w [] arcC 3 n0f3_b n0f3_n n0f3_c n0.Arcs) {r0 : Bool} (H : m_net_rules_4 n0 a1 = some r0) : Fnc Try.prog 116 #[.agg #[.int .i64 n0.N, .int .i64 n0.S, .int .i64 n0.T, .slice n0f3_b n0f3_n n0f3_c], .agg #[.int .i64 a1.fr, .int .i64 a1.to, .int .i64 a1.cap]] w [] (fun v N => v = .bool r0 ∧ N = []) := by
  unfold m_net_rules_4 at H
  refine Fnc.enter (vs := [.agg #[.int .i64 n0.N, .int .i64 n0.S, .int .i64 n0.T, .slice n0f3_b n0f3_n n0f3_c], .agg #[.int .i64 a1.fr, .int .i64 a1.to, .int .i64 a1.cap]]) Try.func116 rfl rfl (Inv.refl w) ?_
  refine T.seq ?_
  refine T.regionL (ll := [0, 1, 2]) rfl ?_
  refine TO.boxA rfl rfl rfl rfl ?_; intro b1
  refine TO.boxA rfl rfl rfl rfl ?_; intro b3
  refine TO.assign rfl rfl rfl rfl ?_
  refine TO.done ?_
  refine X.seq_normal ?_
  refine T.seq ?_
  obtain ⟨r5, e6, H⟩ := bd_some H
  rcases ite_some H with ⟨g7, H⟩ | ⟨g7, H⟩
  ·
    obtain ⟨r8, e9, H⟩ := bd_some H
    refine T.regionL (ll := [0, 1, 2, 3, 4, 5, 6, 7, 8, 9, 10]) rfl ?_
    refine TO.loadA rfl rfl rfl rfl TWBS4.a24 mm1 rfl ?_
    refine TO.fieldAddr0 rfl rfl rfl rfl TWBS4.f67_0 ?_
    refine TO.load1 rfl rfl rfl rfl TWBS4.s3 mm0 rfl ?_
    refine TO.callX TWBS4.c114 rfl rfl rfl rfl (fun wc hwc => w_net_vertex (n0 := n0) (v1 := a1.fr) wc (h_n0f3.mono hwc) e6) ?_
    rintro _ _ ⟨rfl, rfl⟩
    refine TO.move rfl rfl rfl rfl ?_
    refine TO.decB (t := 9) (b' := true) rfl g7 ?_
    refine TO.loadA rfl rfl rfl rfl TWBS4.a24 mm1 rfl ?_
    refine TO.fieldAddr0 rfl rfl rfl rfl TWBS4.f67_1 ?_
    refine TO.load1 rfl rfl rfl rfl TWBS4.s3 mm0 rfl ?_
    refine TO.callX TWBS4.c114 rfl rfl rfl rfl (fun wc hwc => w_net_vertex (n0 := n0) (v1 := a1.to) wc (h_n0f3.mono hwc) e9) ?_
    rintro _ _ ⟨rfl, rfl⟩
    refine TO.pickT rfl rfl rfl rfl rfl ?_
    refine TO.assign rfl rfl rfl rfl ?_
    refine TO.done ?_
    refine X.seq_normal ?_
    refine T.trim (AllF.cons (t := 4) rfl AllF.nil) ?_
    refine T.ret ?_
    obtain rfl := ret1 H
    exact X.ret1 rfl rfl rfl rfl (Res.tmp rfl) Pick.nil ⟨rfl, rfl⟩
  ·
    refine T.regionL (ll := [0, 1, 2, 3, 4, 5, 6, 7, 8, 9, 10]) rfl ?_
    refine TO.loadA rfl rfl rfl rfl TWBS4.a24 mm1 rfl ?_
    refine TO.fieldAddr0 rfl rfl rfl rfl TWBS4.f67_0 ?_
    refine TO.load1 rfl rfl rfl rfl TWBS4.s3 mm0 rfl ?_
    refine TO.callX TWBS4.c114 rfl rfl rfl rfl (fun wc hwc => w_net_vertex (n0 := n0) (v1 := a1.fr) wc (h_n0f3.mono hwc) e6) ?_
    rintro _ _ ⟨rfl, rfl⟩
    refine TO.move rfl rfl rfl rfl ?_
    refine TO.decB (t := 9) (b' := false) rfl (Bool.eq_false_iff.2 g7) ?_
    refine TO.shut rfl rfl rfl rfl ?_
    refine TO.shut rfl rfl rfl rfl ?_
    refine TO.shut rfl rfl rfl rfl ?_
    refine TO.shut rfl rfl rfl rfl ?_
    refine TO.pickF rfl rfl rfl rfl rfl ?_
    refine TO.assign rfl rfl rfl rfl ?_
    refine TO.done ?_
    refine X.seq_normal ?_
    refine T.trim (AllF.cons (t := 4) rfl AllF.nil) ?_
    refine T.ret ?_
    obtain rfl := ret1 H
    exact X.ret1 rfl rfl rfl rfl (Res.tmp rfl) Pick.nil ⟨rfl, rfl⟩
/-- acequia/net.of$1$1 -/
theorem w_net_of_1_1_rules_4 {a0 : Arc} {c2 : Net} {c1_k : Nat} {c2_k : Nat} {c2f3_b : Option Addr} {c2f3_n : Nat} {c2f3_c : Nat} (w : World) (h_c1_k : HB w [] c1_k [.func (.func 116) #[] #[]]) (h_c2f3 : RS w [] arcC 3 c2f3_b c2f3_n c2f3_c c2.Arcs) (h_c2_k : HB w [] c2_k [.int .i64 c2.N, .int .i64 c2.S, .int .i64 c2.T, .slice c2f3_b c2f3_n c2f3_c]) {r0 : Bool} (H : m_net_of_1_1_rules_4 a0 c2 = some r0) : Fnc Try.prog 123 #[.agg #[.int .i64 a0.fr, .int .i64 a0.to, .int .i64 a0.cap], .pointer (some ⟨c1_k, 0, none⟩), .pointer (some ⟨c2_k, 0, none⟩)] w [] (fun v N => v = .bool r0 ∧ N = []) := by
  unfold m_net_of_1_1_rules_4 at H
  refine Fnc.enter (vs := [.agg #[.int .i64 a0.fr, .int .i64 a0.to, .int .i64 a0.cap], .pointer (some ⟨c1_k, 0, none⟩), .pointer (some ⟨c2_k, 0, none⟩)]) Try.func123 rfl rfl (Inv.refl w) ?_
  refine T.seq ?_
  refine T.regionL (ll := [0, 1]) rfl ?_
  refine TO.boxA rfl rfl rfl rfl ?_; intro b1
  refine TO.assign rfl rfl rfl rfl ?_
  refine TO.done ?_
  refine X.seq_normal ?_
  refine T.seq ?_
  obtain ⟨r3, e4, H⟩ := bd_some H
  refine T.regionL (ll := [0, 1, 2, 3, 4, 5]) rfl ?_
  refine TO.ldHB h_c1_k rfl rfl rfl rfl rfl TWBS4.s148 ?_
  refine TO.ldHBA h_c2_k rfl rfl rfl rfl rfl TWBS4.a24 ?_
  refine TO.loadA rfl rfl rfl rfl TWBS4.a67 mm0 rfl ?_
  refine TO.callVX TWBS4.c116 rfl rfl rfl rfl rfl (fun wc hwc => w_net_rules_4 (n0 := c2) (a1 := a0) wc (h_c2f3.mono hwc) e4) ?_
  rintro _ _ ⟨rfl, rfl⟩
  refine TO.not rfl rfl rfl rfl ?_
  refine TO.assign rfl rfl rfl rfl ?_
  refine TO.done ?_
  refine X.seq_normal ?_
  refine T.trim (AllF.cons (t := 4) rfl AllF.nil) ?_
  refine T.ret ?_
  obtain rfl := ret1 H
  exact X.ret1 rfl rfl rfl rfl (Res.tmp rfl) Pick.nil ⟨rfl, rfl⟩
/-- slices.IndexFunc[[]acequia/api.Arc,acequia/api.Arc] -/
theorem w_slices_IndexFunc_Arc_of_1_1_rules_4 {s0 : List Arc} {f1_1 : Net} {s0_b : Option Addr} {s0_n : Nat} {s0_c : Nat} {f1_0_k : Nat} {f1_1_k : Nat} {f1_1f3_b : Option Addr} {f1_1f3_n : Nat} {f1_1f3_c : Nat} (w : World) (h_s0 : RS w [] arcC 3 s0_b s0_n s0_c s0) (h_f1_0_k : HB w [] f1_0_k [.func (.func 116) #[] #[]]) (h_f1_1f3 : RS w [] arcC 3 f1_1f3_b f1_1f3_n f1_1f3_c f1_1.Arcs) (h_f1_1_k : HB w [] f1_1_k [.int .i64 f1_1.N, .int .i64 f1_1.S, .int .i64 f1_1.T, .slice f1_1f3_b f1_1f3_n f1_1f3_c]) {r0 : Int} (H : m_slices_IndexFunc_Arc_of_1_1_rules_4 s0 f1_1 = some r0) : Fnc Try.prog 125 #[.slice s0_b s0_n s0_c, .func (.func 123) #[] #[.pointer (some ⟨f1_0_k, 0, none⟩), .pointer (some ⟨f1_1_k, 0, none⟩)]] w [] (fun v N => v = .int .i64 r0 ∧ N = []) := by
  unfold m_slices_IndexFunc_Arc_of_1_1_rules_4 at H
  refine Fnc.enter (vs := [.slice s0_b s0_n s0_c, .func (.func 123) #[] #[.pointer (some ⟨f1_0_k, 0, none⟩), .pointer (some ⟨f1_1_k, 0, none⟩)]]) Try.func125 rfl rfl (Inv.refl w) ?_
  refine T.seq ?_
  refine T.regionL (ll := [0]) rfl ?_
  refine TO.assign rfl rfl rfl rfl ?_
  refine TO.done ?_
  refine X.seq_normal ?_
  refine T.seq ?_
  refine T.seq ?_
  refine T.regionL (ll := [0, 1, 2]) rfl ?_
  refine TO.move rfl rfl rfl rfl ?_
  refine TO.lenX (xs := s0) h_s0.len rfl rfl rfl rfl rfl TWBS4.l22 ?_
  refine TO.move rfl rfl rfl rfl ?_
  refine TO.done ?_
  refine X.seq_normal ?_
  refine T.meetSE1 (fun (u8 : Unit) => m_slices_IndexFunc_Arc_of_1_1_rules_4_j2 = some r0) (fun (u8 : Unit) => []) (fun (u8 : Unit) => []) ?_ ?_
  ·
    refine T.block ?_
    obtain ⟨o_1, e_1, K_1⟩ := bd_some H
    refine T.loopE2 (fun (m_1 : Nat) (x1 : Int) => loopM (fun s => m_slices_IndexFunc_Arc_of_1_1_rules_4_s1 s0 f1_1 s) m_1 x1 = some o_1) (fun (m_1 : Nat) (x1 : Int) => [(0, .slice s0_b s0_n s0_c), (1, .func (.func 123) #[] #[.pointer (some ⟨f1_0_k, 0, none⟩), .pointer (some ⟨f1_1_k, 0, none⟩)]), (7, .int .i64 (s0.length : Int)), (8, .int .i64 x1)]) (fun (m_1 : Nat) (x1 : Int) => []) (fun (m_1 : Nat) (x1 : Int) => m_1) FUEL 0 e_1 (AllF.cons rfl (AllF.cons rfl (AllF.cons rfl (AllF.cons rfl AllF.nil)))) Pick.nil ?_
    rintro m_1 x1 H
    obtain ⟨n_1, r_1, rfl, H, C_1⟩ := loopM_some H
    have H : m_slices_IndexFunc_Arc_of_1_1_rules_4_s1 s0 f1_1 x1 = some r_1 := H
    unfold m_slices_IndexFunc_Arc_of_1_1_rules_4_s1 at H
    refine T.seq ?_
    refine T.regionL (ll := [0]) rfl ?_
    refine TO.bin rfl rfl rfl rfl rfl rfl ?_
    refine TO.done ?_
    refine X.seq_normal ?_
    refine T.seq ?_
    rcases ite_some H with ⟨g2, H⟩ | ⟨g2, H⟩
    ·
      refine T.condPT rfl g2 ?_
      refine T.skip ?_
      refine X.seq_normal ?_
      refine T.seq ?_
      refine T.block ?_
      refine T.seq ?_
      refine T.regionL (ll := [0, 1]) rfl ?_
      refine TO.move rfl rfl rfl rfl ?_
      refine TO.assign rfl rfl rfl rfl ?_
      refine TO.done ?_
      refine X.seq_normal ?_
      refine T.seq ?_
      obtain ⟨g3, H⟩ := gd_some H
      obtain ⟨r4, e5, H⟩ := bd_some H
      refine T.regionL (ll := [0, 1, 2, 3, 4, 5]) rfl ?_
      refine TO.move rfl rfl rfl rfl ?_
      refine TO.move rfl rfl rfl rfl ?_
      refine TO.move rfl rfl rfl rfl ?_
      refine TO.ixR h_s0 g3 rfl rfl rfl rfl rfl TWBS4.l22 TWBS4.n67 ?_
      refine TO.ldSR (cs := [.int .i64 ((s0.getD x1.toNat default).fr), .int .i64 ((s0.getD x1.toNat default).to), .int .i64 ((s0.getD x1.toNat default).cap)]) default h_s0 g3 rfl rfl rfl rfl rfl TWBS4.a67 ?_
      refine TO.callVX TWBS4.c123 rfl rfl rfl rfl rfl (fun wc hwc => w_net_of_1_1_rules_4 (a0 := (s0.getD x1.toNat default)) (c2 := f1_1) wc (h_f1_0_k.mono hwc) (h_f1_1f3.mono hwc) (h_f1_1_k.mono hwc) e5) ?_
      rintro _ _ ⟨rfl, rfl⟩
      refine TO.done ?_
      refine X.seq_normal ?_
      rcases ite_some H with ⟨g6, H⟩ | ⟨g6, H⟩
      ·
        refine T.condT rfl g6 ?_
        refine T.seq ?_
        refine T.regionL (ll := [0, 1]) rfl ?_
        refine TO.move rfl rfl rfl rfl ?_
        refine TO.assign rfl rfl rfl rfl ?_
        refine TO.done ?_
        refine X.seq_normal ?_
        refine T.trim (AllF.cons (t := 4) rfl AllF.nil) ?_
        refine T.ret ?_
        refine X.block_ret ?_
        refine X.then_ret ?_
        have H := loop_exitE H C_1 ▸ K_1
        refine X.then_ret ?_
        refine X.block_ret ?_
        refine X.then_ret ?_
        obtain rfl := ret1 H
        exact X.ret1 rfl rfl rfl rfl (Res.tmp rfl) Pick.nil ⟨rfl, rfl⟩
      ·
        refine T.condF rfl (Bool.eq_false_iff.2 g6) ?_
        refine T.skip ?_
        refine X.block_normal ?_
        refine X.seq_normal ?_
        refine T.trim (AllF.cons (t := 0) rfl (AllF.cons (t := 1) rfl (AllF.cons (t := 7) rfl (AllF.cons (t := 8) rfl AllF.nil)))) ?_
        obtain ⟨g7, H⟩ := gd_some H
        refine T.regionL (ll := [0, 1]) rfl ?_
        refine TO.addG g7 rfl rfl rfl rfl rfl ?_
        refine TO.move rfl rfl rfl rfl ?_
        refine TO.done ?_
        have H := loop_next H C_1
        exact X.againE2 n_1 (x1 + 1) H (Nat.lt_succ_self _) (AllF.cons rfl (AllF.cons rfl (AllF.cons rfl (AllF.cons rfl AllF.nil)))) Pick.nil
    ·
      refine T.condPF rfl g2 ?_
      refine T.exit ?_
      refine X.then_exit ?_
      have H := loop_exitE H C_1 ▸ K_1
      refine X.then_exit ?_
      refine X.block_here ?_
      exact X.metE1 () H AllF.nil Pick.nil
  · rintro u8 H
    unfold m_slices_IndexFunc_Arc_of_1_1_rules_4_j2 at H
    refine T.seq ?_
    refine T.regionL (ll := [0]) rfl ?_
    refine TO.assign rfl rfl rfl rfl ?_
    refine TO.done ?_
    refine X.seq_normal ?_
    refine T.ret ?_
    obtain rfl := ret1 H
    exact X.ret1 rfl rfl rfl rfl (Res.tmp rfl) Pick.nil ⟨rfl, rfl⟩
/-- slices.ContainsFunc[[]acequia/api.Arc,acequia/api.Arc] -/
theorem w_slices_ContainsFunc_Arc_of_1_1_rules_4 {s0 : List Arc} {f1_1 : Net} {s0_b : Option Addr} {s0_n : Nat} {s0_c : Nat} {f1_0_k : Nat} {f1_1_k : Nat} {f1_1f3_b : Option Addr} {f1_1f3_n : Nat} {f1_1f3_c : Nat} (w : World) (h_s0 : RS w [] arcC 3 s0_b s0_n s0_c s0) (h_f1_0_k : HB w [] f1_0_k [.func (.func 116) #[] #[]]) (h_f1_1f3 : RS w [] arcC 3 f1_1f3_b f1_1f3_n f1_1f3_c f1_1.Arcs) (h_f1_1_k : HB w [] f1_1_k [.int .i64 f1_1.N, .int .i64 f1_1.S, .int .i64 f1_1.T, .slice f1_1f3_b f1_1f3_n f1_1f3_c]) {r0 : Bool} (H : m_slices_ContainsFunc_Arc_of_1_1_rules_4 s0 f1_1 = some r0) : Fnc Try.prog 122 #[.slice s0_b s0_n s0_c, .func (.func 123) #[] #[.pointer (some ⟨f1_0_k, 0, none⟩), .pointer (some ⟨f1_1_k, 0, none⟩)]] w [] (fun v N => v = .bool r0 ∧ N = []) := by
  unfold m_slices_ContainsFunc_Arc_of_1_1_rules_4 at H
  refine Fnc.enter (vs := [.slice s0_b s0_n s0_c, .func (.func 123) #[] #[.pointer (some ⟨f1_0_k, 0, none⟩), .pointer (some ⟨f1_1_k, 0, none⟩)]]) Try.func122 rfl rfl (Inv.refl w) ?_
  refine T.seq ?_
  refine T.regionL (ll := [0]) rfl ?_
  refine TO.assign rfl rfl rfl rfl ?_
  refine TO.done ?_
  refine X.seq_normal ?_
  refine T.seq ?_
  obtain ⟨r1, e2, H⟩ := bd_some H
  refine T.regionL (ll := [0, 1, 2, 3, 4]) rfl ?_
  refine TO.move rfl rfl rfl rfl ?_
  refine TO.move rfl rfl rfl rfl ?_
  refine TO.callX TWBS4.c125 rfl rfl rfl rfl (fun wc hwc => w_slices_IndexFunc_Arc_of_1_1_rules_4 (s0 := s0) (f1_1 := f1_1) wc (h_s0.mono hwc) (h_f1_0_k.mono hwc) (h_f1_1f3.mono hwc) (h_f1_1_k.mono hwc) e2) ?_
  rintro _ _ ⟨rfl, rfl⟩
  refine TO.bin rfl rfl rfl rfl rfl rfl ?_
  refine TO.assign rfl rfl rfl rfl ?_
  refine TO.done ?_
  refine X.seq_normal ?_
  refine T.ret ?_
  obtain rfl := ret1 H
  exact X.ret1 rfl rfl rfl rfl (Res.tmp rfl) Pick.nil ⟨rfl, rfl⟩
/-- acequia/net.of$1 -/
theorem w_net_of_1_rules_4 {n0 : Net} {n0f3_b : Option Addr} {n0f3_n : Nat} {n0f3_c : Nat} {c1_k : Nat} (w : World) (h_n0f3 : RS w [] arcC 3 n0f3_b n0f3_n n0f3_c n0.Arcs) (h_c1_k : HB w [] c1_k [.func (.func 116) #[] #[]]) {r0 : Bool} (H : m_net_of_1_rules_4 n0 = some r0) : Fnc Try.prog 121 #[.agg #[.int .i64 n0.N, .int .i64 n0.S, .int .i64 n0.T, .slice n0f3_b n0f3_n n0f3_c], .pointer (some ⟨c1_k, 0, none⟩)] w [] (fun v N => v = .bool r0 ∧ N = []) := by
  unfold m_net_of_1_rules_4 at H
  refine Fnc.enter (vs := [.agg #[.int .i64 n0.N, .int .i64 n0.S, .int .i64 n0.T, .slice n0f3_b n0f3_n n0f3_c], .pointer (some ⟨c1_k, 0, none⟩)]) Try.func121 rfl rfl (Inv.refl w) ?_
  refine T.seq ?_
  refine T.regionL (ll := [0, 1]) rfl ?_
  refine TO.boxA rfl rfl rfl rfl ?_; intro b1
  refine TO.assign rfl rfl rfl rfl ?_
  refine TO.done ?_
  refine X.seq_normal ?_
  refine T.seq ?_
  obtain ⟨r3, e4, H⟩ := bd_some H
  refine T.regionL (ll := [0, 1, 2, 3, 4, 5]) rfl ?_
  refine TO.fieldAddr0 rfl rfl rfl rfl TWBS4.f24_3 ?_
  refine TO.load1 rfl rfl rfl rfl TWBS4.s22 mm0 rfl ?_
  refine TO.makeFunc rfl rfl rfl rfl rfl ?_
  refine TO.callX TWBS4.c122 rfl rfl rfl rfl (fun wc hwc => w_slices_ContainsFunc_Arc_of_1_1_rules_4 (s0 := n0.Arcs) (f1_1 := n0) wc (h_n0f3.mono hwc) (h_c1_k.mono hwc) (h_n0f3.mono hwc) (hwc.hb (cs := [.int .i64 n0.N, .int .i64 n0.S, .int .i64 n0.T, .slice n0f3_b n0f3_n n0f3_c]) mm0) e4) ?_
  rintro _ _ ⟨rfl, rfl⟩
  refine TO.not rfl rfl rfl rfl ?_
  refine TO.assign rfl rfl rfl rfl ?_
  refine TO.done ?_
  refine X.seq_normal ?_
  refine T.trim (AllF.cons (t := 3) rfl AllF.nil) ?_
  refine T.ret ?_
  obtain rfl := ret1 H
  exact X.ret1 rfl rfl rfl rfl (Res.tmp rfl) Pick.nil ⟨rfl, rfl⟩
/-- acequia/net.rules$5 -/
theorem w_net_rules_5 {n0 : Net} {a1 : Arc} {n0f3_b : Option Addr} {n0f3_n : Nat} {n0f3_c : Nat} (w : World) (h_n0f3 : RS w [] arcC 3 n0f3_b n0f3_n n0f3_c n0.Arcs) {r0 : Bool} (H : m_net_rules_5 n0 a1 = some r0) : Fnc Try.prog 117 #[.agg #[.int .i64 n0.N, .int .i64 n0.S, .int .i64 n0.T, .slice n0f3_b n0f3_n n0f3_c], .agg #[.int .i64 a1.fr, .int .i64 a1.to, .int .i64 a1.cap]] w [] (fun v N => v = .bool r0 ∧ N = []) := by
  unfold m_net_rules_5 at H
  refine Fnc.enter (vs := [.agg #[.int .i64 n0.N, .int .i64 n0.S, .int .i64 n0.T, .slice n0f3_b n0f3_n n0f3_c], .agg #[.int .i64 a1.fr, .int .i64 a1.to, .int .i64 a1.cap]]) Try.func117 rfl rfl (Inv.refl w) ?_
  refine T.seq ?_
  refine T.regionL (ll := [0, 1, 2]) rfl ?_
  refine TO.boxA rfl rfl rfl rfl ?_; intro b1
  refine TO.boxA rfl rfl rfl rfl ?_; intro b3
  refine TO.assign rfl rfl rfl rfl ?_
  refine TO.done ?_
  refine X.seq_normal ?_
  refine T.seq ?_
  refine T.regionL (ll := [0, 1, 2, 3]) rfl ?_
  refine TO.fieldAddr0 rfl rfl rfl rfl TWBS4.f67_2 ?_
  refine TO.load1 rfl rfl rfl rfl TWBS4.s2 mm0 rfl ?_
  refine TO.bin rfl rfl rfl rfl rfl rfl ?_
  refine TO.assign rfl rfl rfl rfl ?_
  refine TO.done ?_
  refine X.seq_normal ?_
  refine T.ret ?_
  obtain rfl := ret1 H
  exact X.ret1 rfl rfl rfl rfl (Res.tmp rfl) Pick.nil ⟨rfl, rfl⟩
/-- acequia/net.of$1$1 -/
theorem w_net_of_1_1_rules_5 {a0 : Arc} {c2 : Net} {c1_k : Nat} {c2_k : Nat} {c2f3_b : Option Addr} {c2f3_n : Nat} {c2f3_c : Nat} (w : World) (h_c1_k : HB w [] c1_k [.func (.func 117) #[] #[]]) (h_c2f3 : RS w [] arcC 3 c2f3_b c2f3_n c2f3_c c2.Arcs) (h_c2_k : HB w [] c2_k [.int .i64 c2.N, .int .i64 c2.S, .int .i64 c2.T, .slice c2f3_b c2f3_n c2f3_c]) {r0 : Bool} (H : m_net_of_1_1_rules_5 a0 c2 = some r0) : Fnc Try.prog 123 #[.agg #[.int .i64 a0.fr, .int .i64 a0.to, .int .i64 a0.cap], .pointer (some ⟨c1_k, 0, none⟩), .pointer (some ⟨c2_k, 0, none⟩)] w [] (fun v N => v = .bool r0 ∧ N = []) := by
  unfold m_net_of_1_1_rules_5 at H
  refine Fnc.enter (vs := [.agg #[.int .i64 a0.fr, .int .i64 a0.to, .int .i64 a0.cap], .pointer (some ⟨c1_k, 0, none⟩), .pointer (some ⟨c2_k, 0, none⟩)]) Try.func123 rfl rfl (Inv.refl w) ?_
  refine T.seq ?_
  refine T.regionL (ll := [0, 1]) rfl ?_
  refine TO.boxA rfl rfl rfl rfl ?_; intro b1
  refine TO.assign rfl rfl rfl rfl ?_
  refine TO.done ?_
  refine X.seq_normal ?_
  refine T.seq ?_
  obtain ⟨r3, e4, H⟩ := bd_some H
  refine T.regionL (ll := [0, 1, 2, 3, 4, 5]) rfl ?_
  refine TO.ldHB h_c1_k rfl rfl rfl rfl rfl TWBS4.s148 ?_
  refine TO.ldHBA h_c2_k rfl rfl rfl rfl rfl TWBS4.a24 ?_
  refine TO.loadA rfl rfl rfl rfl TWBS4.a67 mm0 rfl ?_
  refine TO.callVX TWBS4.c117 rfl rfl rfl rfl rfl (fun wc hwc => w_net_rules_5 (n0 := c2) (a1 := a0) wc (h_c2f3.mono hwc) e4) ?_
  rintro _ _ ⟨rfl, rfl⟩
  refine TO.not rfl rfl rfl rfl ?_
  refine TO.assign rfl rfl rfl rfl ?_
  refine TO.done ?_
  refine X.seq_normal ?_
  refine T.trim (AllF.cons (t := 4) rfl AllF.nil) ?_
  refine T.ret ?_
  obtain rfl := ret1 H
  exact X.ret1 rfl rfl rfl rfl (Res.tmp rfl) Pick.nil ⟨rfl, rfl⟩
/-- slices.IndexFunc[[]acequia/api.Arc,acequia/api.Arc] -/
theorem w_slices_IndexFunc_Arc_of_1_1_rules_5 {s0 : List Arc} {f1_1 : Net} {s0_b : Option Addr} {s0_n : Nat} {s0_c : Nat} {f1_0_k : Nat} {f1_1_k : Nat} {f1_1f3_b : Option Addr} {f1_1f3_n : Nat} {f1_1f3_c : Nat} (w : World) (h_s0 : RS w [] arcC 3 s0_b s0_n s0_c s0) (h_f1_0_k : HB w [] f1_0_k [.func (.func 117) #[] #[]]) (h_f1_1f3 : RS w [] arcC 3 f1_1f3_b f1_1f3_n f1_1f3_c f1_1.Arcs) (h_f1_1_k : HB w [] f1_1_k [.int .i64 f1_1.N, .int .i64 f1_1.S, .int .i64 f1_1.T, .slice f1_1f3_b f1_1f3_n f1_1f3_c]) {r0 : Int} (H : m_slices_IndexFunc_Arc_of_1_1_rules_5 s0 f1_1 = some r0) : Fnc Try.prog 125 #[.slice s0_b s0_n s0_c, .func (.func 123) #[] #[.pointer (some ⟨f1_0_k, 0, none⟩), .pointer (some ⟨f1_1_k, 0, none⟩)]] w [] (fun v N => v = .int .i64 r0 ∧ N = []) := by
  unfold m_slices_IndexFunc_Arc_of_1_1_rules_5 at H
  refine Fnc.enter (vs := [.slice s0_b s0_n s0_c, .func (.func 123) #[] #[.pointer (some ⟨f1_0_k, 0, none⟩), .pointer (some ⟨f1_1_k, 0, none⟩)]]) Try.func125 rfl rfl (Inv.refl w) ?_
  refine T.seq ?_
  refine T.regionL (ll := [0]) rfl ?_
  refine TO.assign rfl rfl rfl rfl ?_
  refine TO.done ?_
  refine X.seq_normal ?_
  refine T.seq ?_
  refine T.seq ?_
  refine T.regionL (ll := [0, 1, 2]) rfl ?_
  refine TO.move rfl rfl rfl rfl ?_
  refine TO.lenX (xs := s0) h_s0.len rfl rfl rfl rfl rfl TWBS4.l22 ?_
  refine TO.move rfl rfl rfl rfl ?_
  refine TO.done ?_
  refine X.seq_normal ?_
  refine T.meetSE1 (fun (u8 : Unit) => m_slices_IndexFunc_Arc_of_1_1_rules_5_j2 = some r0) (fun (u8 : Unit) => []) (fun (u8 : Unit) => []) ?_ ?_
  ·
    refine T.block ?_
    obtain ⟨o_1, e_1, K_1⟩ := bd_some H
    refine T.loopE2 (fun (m_1 : Nat) (x1 : Int) => loopM (fun s => m_slices_IndexFunc_Arc_of_1_1_rules_5_s1 s0 f1_1 s) m_1 x1 = some o_1) (fun (m_1 : Nat) (x1 : Int) => [(0, .slice s0_b s0_n s0_c), (1, .func (.func 123) #[] #[.pointer (some ⟨f1_0_k, 0, none⟩), .pointer (some ⟨f1_1_k, 0, none⟩)]), (7, .int .i64 (s0.length : Int)), (8, .int .i64 x1)]) (fun (m_1 : Nat) (x1 : Int) => []) (fun (m_1 : Nat) (x1 : Int) => m_1) FUEL 0 e_1 (AllF.cons rfl (AllF.cons rfl (AllF.cons rfl (AllF.cons rfl AllF.nil)))) Pick.nil ?_
    rintro m_1 x1 H
    obtain ⟨n_1, r_1, rfl, H, C_1⟩ := loopM_some H
    have H : m_slices_IndexFunc_Arc_of_1_1_rules_5_s1 s0 f1_1 x1 = some r_1 := H
    unfold m_slices_IndexFunc_Arc_of_1_1_rules_5_s1 at H
    refine T.seq ?_
    refine T.regionL (ll := [0]) rfl ?_
    refine TO.bin rfl rfl rfl rfl rfl rfl ?_
    refine TO.done ?_
    refine X.seq_normal ?_
    refine T.seq ?_
    rcases ite_some H with ⟨g2, H⟩ | ⟨g2, H⟩
    ·
      refine T.condPT rfl g2 ?_
      refine T.skip ?_
      refine X.seq_normal ?_
      refine T.seq ?_
      refine T.block ?_
      refine T.seq ?_
      refine T.regionL (ll := [0, 1]) rfl ?_
      refine TO.move rfl rfl rfl rfl ?_
      refine TO.assign rfl rfl rfl rfl ?_
      refine TO.done ?_
      refine X.seq_normal ?_
      refine T.seq ?_
      obtain ⟨g3, H⟩ := gd_some H
      obtain ⟨r4, e5, H⟩ := bd_some H
      refine T.regionL (ll := [0, 1, 2, 3, 4, 5]) rfl ?_
      refine TO.move rfl rfl rfl rfl ?_
      refine TO.move rfl rfl rfl rfl ?_
      refine TO.move rfl rfl rfl rfl ?_
      refine TO.ixR h_s0 g3 rfl rfl rfl rfl rfl TWBS4.l22 TWBS4.n67 ?_
      refine TO.ldSR (cs := [.int .i64 ((s0.getD x1.toNat default).fr), .int .i64 ((s0.getD x1.toNat default).to), .int .i64 ((s0.getD x1.toNat default).cap)]) default h_s0 g3 rfl rfl rfl rfl rfl TWBS4.a67 ?_
      refine TO.callVX TWBS4.c123 rfl rfl rfl rfl rfl (fun wc hwc => w_net_of_1_1_rules_5 (a0 := (s0.getD x1.toNat default)) (c2 := f1_1) wc (h_f1_0_k.mono hwc) (h_f1_1f3.mono hwc) (h_f1_1_k.mono hwc) e5) ?_
      rintro _ _ ⟨rfl, rfl⟩
      refine TO.done ?_
      refine X.seq_normal ?_
      rcases ite_some H with ⟨g6, H⟩ | ⟨g6, H⟩
      ·
        refine T.condT rfl g6 ?_
        refine T.seq ?_
        refine T.regionL (ll := [0, 1]) rfl ?_
        refine TO.move rfl rfl rfl rfl ?_
        refine TO.assign rfl rfl rfl rfl ?_
        refine TO.done ?_
        refine X.seq_normal ?_
        refine T.trim (AllF.cons (t := 4) rfl AllF.nil) ?_
        refine T.ret ?_
        refine X.block_ret ?_
        refine X.then_ret ?_
        have H := loop_exitE H C_1 ▸ K_1
        refine X.then_ret ?_
        refine X.block_ret ?_
        refine X.then_ret ?_
        obtain rfl := ret1 H
        exact X.ret1 rfl rfl rfl rfl (Res.tmp rfl) Pick.nil ⟨rfl, rfl⟩
      ·
        refine T.condF rfl (Bool.eq_false_iff.2 g6) ?_
        refine T.skip ?_
        refine X.block_normal ?_
        refine X.seq_normal ?_
        refine T.trim (AllF.cons (t := 0) rfl (AllF.cons (t := 1) rfl (AllF.cons (t := 7) rfl (AllF.cons (t := 8) rfl AllF.nil)))) ?_
        obtain ⟨g7, H⟩ := gd_some H
        refine T.regionL (ll := [0, 1]) rfl ?_
        refine TO.addG g7 rfl rfl rfl rfl rfl ?_
        refine TO.move rfl rfl rfl rfl ?_
        refine TO.done ?_
        have H := loop_next H C_1
        exact X.againE2 n_1 (x1 + 1) H (Nat.lt_succ_self _) (AllF.cons rfl (AllF.cons rfl (AllF.cons rfl (AllF.cons rfl AllF.nil)))) Pick.nil
    ·
      refine T.condPF rfl g2 ?_
      refine T.exit ?_
      refine X.then_exit ?_
      have H := loop_exitE H C_1 ▸ K_1
      refine X.then_exit ?_
      refine X.block_here ?_
      exact X.metE1 () H AllF.nil Pick.nil
  · rintro u8 H
    unfold m_slices_IndexFunc_Arc_of_1_1_rules_5_j2 at H
    refine T.seq ?_
    refine T.regionL (ll := [0]) rfl ?_
    refine TO.assign rfl rfl rfl rfl ?_
    refine TO.done ?_
    refine X.seq_normal ?_
    refine T.ret ?_
    obtain rfl := ret1 H
    exact X.ret1 rfl rfl rfl rfl (Res.tmp rfl) Pick.nil ⟨rfl, rfl⟩
/-- slices.ContainsFunc[[]acequia/api.Arc,acequia/api.Arc] -/
theorem w_slices_ContainsFunc_Arc_of_1_1_rules_5 {s0 : List Arc} {f1_1 : Net} {s0_b : Option Addr} {s0_n : Nat} {s0_c : Nat} {f1_0_k : Nat} {f1_1_k : Nat} {f1_1f3_b : Option Addr} {f1_1f3_n : Nat} {f1_1f3_c : Nat} (w : World) (h_s0 : RS w [] arcC 3 s0_b s0_n s0_c s0) (h_f1_0_k : HB w [] f1_0_k [.func (.func 117) #[] #[]]) (h_f1_1f3 : RS w [] arcC 3 f1_1f3_b f1_1f3_n f1_1f3_c f1_1.Arcs) (h_f1_1_k : HB w [] f1_1_k [.int .i64 f1_1.N, .int .i64 f1_1.S, .int .i64 f1_1.T, .slice f1_1f3_b f1_1f3_n f1_1f3_c]) {r0 : Bool} (H : m_slices_ContainsFunc_Arc_of_1_1_rules_5 s0 f1_1 = some r0) : Fnc Try.prog 122 #[.slice s0_b s0_n s0_c, .func (.func 123) #[] #[.pointer (some ⟨f1_0_k, 0, none⟩), .pointer (some ⟨f1_1_k, 0, none⟩)]] w [] (fun v N => v = .bool r0 ∧ N = []) := by
  unfold m_slices_ContainsFunc_Arc_of_1_1_rules_5 at H
  refine Fnc.enter (vs := [.slice s0_b s0_n s0_c, .func (.func 123) #[] #[.pointer (some ⟨f1_0_k, 0, none⟩), .pointer (some ⟨f1_1_k, 0, none⟩)]]) Try.func122 rfl rfl (Inv.refl w) ?_
  refine T.seq ?_
  refine T.regionL (ll := [0]) rfl ?_
  refine TO.assign rfl rfl rfl rfl ?_
  refine TO.done ?_
  refine X.seq_normal ?_
  refine T.seq ?_
  obtain ⟨r1, e2, H⟩ := bd_some H
  refine T.regionL (ll := [0, 1, 2, 3, 4]) rfl ?_
  refine TO.move rfl rfl rfl rfl ?_
  refine TO.move rfl rfl rfl rfl ?_
  refine TO.callX TWBS4.c125 rfl rfl rfl rfl (fun wc hwc => w_slices_IndexFunc_Arc_of_1_1_rules_5 (s0 := s0) (f1_1 := f1_1) wc (h_s0.mono hwc) (h_f1_0_k.mono hwc) (h_f1_1f3.mono hwc) (h_f1_1_k.mono hwc) e2) ?_
  rintro _ _ ⟨rfl, rfl⟩
  refine TO.bin rfl rfl rfl rfl rfl rfl ?_
  refine TO.assign rfl rfl rfl rfl ?_
  refine TO.done ?_
  refine X.seq_normal ?_
  refine T.ret ?_
  obtain rfl := ret1 H
  exact X.ret1 rfl rfl rfl rfl (Res.tmp rfl) Pick.nil ⟨rfl, rfl⟩
/-- acequia/net.of$1 -/
theorem w_net_of_1_rules_5 {n0 : Net} {n0f3_b : Option Addr} {n0f3_n : Nat} {n0f3_c : Nat} {c1_k : Nat} (w : World) (h_n0f3 : RS w [] arcC 3 n0f3_b n0f3_n n0f3_c n0.Arcs) (h_c1_k : HB w [] c1_k [.func (.func 117) #[] #[]]) {r0 : Bool} (H : m_net_of_1_rules_5 n0 = some r0) : Fnc Try.prog 121 #[.agg #[.int .i64 n0.N, .int .i64 n0.S, .int .i64 n0.T, .slice n0f3_b n0f3_n n0f3_c], .pointer (some ⟨c1_k, 0, none⟩)] w [] (fun v N => v = .bool r0 ∧ N = []) := by
  unfold m_net_of_1_rules_5 at H
  refine Fnc.enter (vs := [.agg #[.int .i64 n0.N, .int .i64 n0.S, .int .i64 n0.T, .slice n0f3_b n0f3_n n0f3_c], .pointer (some ⟨c1_k, 0, none⟩)]) Try.func121 rfl rfl (Inv.refl w) ?_
  refine T.seq ?_
  refine T.regionL (ll := [0, 1]) rfl ?_
  refine TO.boxA rfl rfl rfl rfl ?_; intro b1
  refine TO.assign rfl rfl rfl rfl ?_
  refine TO.done ?_
  refine X.seq_normal ?_
  refine T.seq ?_
  obtain ⟨r3, e4, H⟩ := bd_some H
  refine T.regionL (ll := [0, 1, 2, 3, 4, 5]) rfl ?_
  refine TO.fieldAddr0 rfl rfl rfl rfl TWBS4.f24_3 ?_
  refine TO.load1 rfl rfl rfl rfl TWBS4.s22 mm0 rfl ?_
  refine TO.makeFunc rfl rfl rfl rfl rfl ?_
  refine TO.callX TWBS4.c122 rfl rfl rfl rfl (fun wc hwc => w_slices_ContainsFunc_Arc_of_1_1_rules_5 (s0 := n0.Arcs) (f1_1 := n0) wc (h_n0f3.mono hwc) (h_c1_k.mono hwc) (h_n0f3.mono hwc) (hwc.hb (cs := [.int .i64 n0.N, .int .i64 n0.S, .int .i64 n0.T, .slice n0f3_b n0f3_n n0f3_c]) mm0) e4) ?_
  rintro _ _ ⟨rfl, rfl⟩
  refine TO.not rfl rfl rfl rfl ?_
  refine TO.assign rfl rfl rfl rfl ?_
  refine TO.done ?_
  refine X.seq_normal ?_
  refine T.trim (AllF.cons (t := 3) rfl AllF.nil) ?_
  refine T.ret ?_
  obtain rfl := ret1 H
  exact X.ret1 rfl rfl rfl rfl (Res.tmp rfl) Pick.nil ⟨rfl, rfl⟩
/-- acequia/net.Sum -/
theorem w_net_Sum {n0 : Net} {n0f3_b : Option Addr} {n0f3_n : Nat} {n0f3_c : Nat} (w : World) (h_n0f3 : RS w [] arcC 3 n0f3_b n0f3_n n0f3_c n0.Arcs) {r0 : Int} {r1 : Bool} (H : m_net_Sum n0 = some (r0, r1)) : Fnc Try.prog 119 #[.agg #[.int .i64 n0.N, .int .i64 n0.S, .int .i64 n0.T, .slice n0f3_b n0f3_n n0f3_c]] w [] (fun v N => v = .tuple #[.int .i64 r0, .bool r1] ∧ N = []) := by
  unfold m_net_Sum at H
  refine Fnc.enter (vs := [.agg #[.int .i64 n0.N, .int .i64 n0.S, .int .i64 n0.T, .slice n0f3_b n0f3_n n0f3_c]]) Try.func119 rfl rfl (Inv.refl w) ?_
  refine T.seq ?_
  refine T.regionL (ll := [0, 1, 2]) rfl ?_
  refine TO.boxA rfl rfl rfl rfl ?_; intro b1
  refine TO.assign rfl rfl rfl rfl ?_
  refine TO.assign rfl rfl rfl rfl ?_
  refine TO.done ?_
  refine X.seq_normal ?_
  refine T.seq ?_
  refine T.regionL (ll := [0]) rfl ?_
  refine TO.assign rfl rfl rfl rfl ?_
  refine TO.done ?_
  refine X.seq_normal ?_
  refine T.seq ?_
  refine T.seq ?_
  refine T.regionL (ll := [0, 1, 2, 3]) rfl ?_
  refine TO.fieldAddr0 rfl rfl rfl rfl TWBS4.f24_3 ?_
  refine TO.load1 rfl rfl rfl rfl TWBS4.s22 mm0 rfl ?_
  refine TO.lenX (xs := n0.Arcs) h_n0f3.len rfl rfl rfl rfl rfl TWBS4.l22 ?_
  refine TO.move rfl rfl rfl rfl ?_
  refine TO.done ?_
  refine X.seq_normal ?_
  refine T.meetSE1 (fun (left14 : Int) => m_net_Sum_j3 left14 = some (r0, r1)) (fun (left14 : Int) => [(4, .int .i64 left14)]) (fun (left14 : Int) => []) ?_ ?_
  ·
    refine T.block ?_
    obtain ⟨o_1, e_1, K_1⟩ := bd_some H
    refine T.loopE3 (fun (m_1 : Nat) (left3 : Int) (x4 : Int) => loopM (fun s => m_net_Sum_s1 n0 s.1 s.2) m_1 (left3, x4) = some o_1) (fun (m_1 : Nat) (left3 : Int) (x4 : Int) => [(4, .int .i64 left3), (8, .slice n0f3_b n0f3_n n0f3_c), (9, .int .i64 (n0.Arcs.length : Int)), (10, .int .i64 x4)]) (fun (m_1 : Nat) (left3 : Int) (x4 : Int) => []) (fun (m_1 : Nat) (left3 : Int) (x4 : Int) => m_1) FUEL 4611686018427387904 0 e_1 (AllF.cons rfl (AllF.cons rfl (AllF.cons rfl (AllF.cons rfl AllF.nil)))) Pick.nil ?_
    rintro m_1 left3 x4 H
    obtain ⟨n_1, r_1, rfl, H, C_1⟩ := loopM_some H
    have H : m_net_Sum_s1 n0 left3 x4 = some r_1 := H
    unfold m_net_Sum_s1 at H
    refine T.seq ?_
    refine T.regionL (ll := [0]) rfl ?_
    refine TO.bin rfl rfl rfl rfl rfl rfl ?_
    refine TO.done ?_
    refine X.seq_normal ?_
    refine T.seq ?_
    rcases ite_some H with ⟨g5, H⟩ | ⟨g5, H⟩
    ·
      refine T.condPT rfl g5 ?_
      refine T.skip ?_
      refine X.seq_normal ?_
      refine T.seq ?_
      refine T.block ?_
      refine T.seq ?_
      obtain ⟨g6, H⟩ := gd_some H
      refine T.regionL (ll := [0, 1, 2, 3]) rfl ?_
      refine TO.ixR h_n0f3 g6 rfl rfl rfl rfl rfl TWBS4.l22 TWBS4.n67 ?_
      refine TO.ldSR (cs := [.int .i64 ((n0.Arcs.getD x4.toNat default).fr), .int .i64 ((n0.Arcs.getD x4.toNat default).to), .int .i64 ((n0.Arcs.getD x4.toNat default).cap)]) default h_n0f3 g6 rfl rfl rfl rfl rfl TWBS4.a67 ?_
      refine TO.allocA rfl rfl rfl TWBS4.z67 ?_; intro b7
      refine TO.storeA rfl rfl rfl rfl tk0 TWBS4.n67 rfl rfl rfl ?_
      refine TO.done ?_
      refine X.seq_normal ?_
      refine T.seq ?_
      refine T.seq ?_
      refine T.meetSE1 (fun (x10 : Bool) => m_net_Sum_j2 n0 left3 x4 x10 = some r_1) (fun (x10 : Bool) => [(4, .int .i64 left3), (6, .pointer (some ⟨b7, 0, none⟩)), (8, .slice n0f3_b n0f3_n n0f3_c), (9, .int .i64 (n0.Arcs.length : Int)), (10, .int .i64 x4), (22, .bool x10)]) (fun (x10 : Bool) => [(some b7, .cells #[.int .i64 ((n0.Arcs.getD x4.toNat default).fr), .int .i64 ((n0.Arcs.getD x4.toNat default).to), .int .i64 ((n0.Arcs.getD x4.toNat default).cap)] 67 (0, 0))]) ?_ ?_
      ·
        rcases ite_some H with ⟨g9, H⟩ | ⟨g9, H⟩
        ·
          refine T.regionL (ll := [0, 1, 2, 3, 4, 5, 6, 7, 8]) rfl ?_
          refine TO.fieldAddr0 rfl rfl rfl rfl TWBS4.f67_2 ?_
          refine TO.load1 rfl rfl rfl rfl TWBS4.s2 mm0 rfl ?_
          refine TO.bin rfl rfl rfl rfl rfl rfl ?_
          refine TO.move rfl rfl rfl rfl ?_
          refine TO.decB (t := 17) (b' := true) rfl (decide_eq_true g9) ?_
          refine TO.shut rfl rfl rfl rfl ?_
          refine TO.shut rfl rfl rfl rfl ?_
          refine TO.shut rfl rfl rfl rfl ?_
          refine TO.shut rfl rfl rfl rfl ?_
          refine TO.pickT rfl rfl rfl rfl rfl ?_
          refine TO.done ?_
          exact X.metE1 true H (AllF.cons rfl (AllF.cons rfl (AllF.cons rfl (AllF.cons rfl (AllF.cons rfl (AllF.cons rfl AllF.nil)))))) (Pick.cons tk0 Pick.nil)
        ·
          refine T.regionL (ll := [0, 1, 2, 3, 4, 5, 6, 7, 8]) rfl ?_
          refine TO.fieldAddr0 rfl rfl rfl rfl TWBS4.f67_2 ?_
          refine TO.load1 rfl rfl rfl rfl TWBS4.s2 mm0 rfl ?_
          refine TO.bin rfl rfl rfl rfl rfl rfl ?_
          refine TO.move rfl rfl rfl rfl ?_
          refine TO.decB (t := 17) (b' := false) rfl (decide_eq_false g9) ?_
          refine TO.fieldAddr0 rfl rfl rfl rfl TWBS4.f67_2 ?_
          refine TO.load1 rfl rfl rfl rfl TWBS4.s2 mm0 rfl ?_
          refine TO.move rfl rfl rfl rfl ?_
          refine TO.bin rfl rfl rfl rfl rfl rfl ?_
          refine TO.pickF rfl rfl rfl rfl rfl ?_
          refine TO.done ?_
          exact X.metE1 (decide (left3 < ((n0.Arcs.getD x4.toNat default).cap))) H (AllF.cons rfl (AllF.cons rfl (AllF.cons rfl (AllF.cons rfl (AllF.cons rfl (AllF.cons rfl AllF.nil)))))) (Pick.cons tk0 Pick.nil)
      · rintro x10 H
        unfold m_net_Sum_j2 at H
        rcases ite_some H with ⟨g11, H⟩ | ⟨g11, H⟩
        ·
          refine T.condT rfl g11 ?_
          refine T.seq ?_
          refine T.regionL (ll := [0, 1]) rfl ?_
          refine TO.assign rfl rfl rfl rfl ?_
          refine TO.assign rfl rfl rfl rfl ?_
          refine TO.done ?_
          refine X.seq_normal ?_
          refine T.ret ?_
          refine X.then_ret ?_
          refine X.block_ret ?_
          refine X.then_ret ?_
          have H := loop_exitE H C_1 ▸ K_1
          refine X.then_ret ?_
          refine X.block_ret ?_
          refine X.then_ret ?_
          obtain ⟨rfl, rfl⟩ := ret2 H
          exact X.ret2 rfl rfl rfl rfl (Res.tmp rfl) (Res.tmp rfl) Pick.nil ⟨rfl, rfl⟩
        ·
          refine T.condF rfl (Bool.eq_false_iff.2 g11) ?_
          refine T.skip ?_
          refine X.seq_normal ?_
          obtain ⟨g12, H⟩ := gd_some H
          refine T.regionL (ll := [0, 1, 2, 3, 4]) rfl ?_
          refine TO.move rfl rfl rfl rfl ?_
          refine TO.fieldAddr0 rfl rfl rfl rfl TWBS4.f67_2 ?_
          refine TO.load1 rfl rfl rfl rfl TWBS4.s2 mm0 rfl ?_
          refine TO.subG g12 rfl rfl rfl rfl rfl ?_
          refine TO.assign rfl rfl rfl rfl ?_
          refine TO.done ?_
          refine X.block_normal ?_
          refine X.seq_normal ?_
          obtain ⟨g13, H⟩ := gd_some H
          refine T.regionL (ll := [0, 1]) rfl ?_
          refine TO.addG g13 rfl rfl rfl rfl rfl ?_
          refine TO.move rfl rfl rfl rfl ?_
          refine TO.done ?_
          have H := loop_next H C_1
          exact X.againE3 n_1 (left3 - ((n0.Arcs.getD x4.toNat default).cap)) (x4 + 1) H (Nat.lt_succ_self _) (AllF.cons rfl (AllF.cons rfl (AllF.cons rfl (AllF.cons rfl AllF.nil)))) Pick.nil
    ·
      refine T.condPF rfl g5 ?_
      refine T.exit ?_
      refine X.then_exit ?_
      have H := loop_exitE H C_1 ▸ K_1
      refine X.then_exit ?_
      refine X.block_here ?_
      exact X.metE1 left3 H (AllF.cons rfl AllF.nil) Pick.nil
  · rintro left14 H
    unfold m_net_Sum_j3 at H
    refine T.seq ?_
    obtain ⟨g15, H⟩ := gd_some H
    refine T.regionL (ll := [0, 1, 2, 3]) rfl ?_
    refine TO.move rfl rfl rfl rfl ?_
    refine TO.subG g15 rfl rfl rfl rfl rfl ?_
    refine TO.assign rfl rfl rfl rfl ?_
    refine TO.assign rfl rfl rfl rfl ?_
    refine TO.done ?_
    refine X.seq_normal ?_
    refine T.ret ?_
    obtain ⟨rfl, rfl⟩ := ret2 H
    exact X.ret2 rfl rfl rfl rfl (Res.tmp rfl) (Res.tmp rfl) Pick.nil ⟨rfl, rfl⟩
/-- acequia/net.rules$6 -/
theorem w_net_rules_6 {n0 : Net} {n0f3_b : Option Addr} {n0f3_n : Nat} {n0f3_c : Nat} (w : World) (h_n0f3 : RS w [] arcC 3 n0f3_b n0f3_n n0f3_c n0.Arcs) {r0 : Bool} (H : m_net_rules_6 n0 = some r0) : Fnc Try.prog 118 #[.agg #[.int .i64 n0.N, .int .i64 n0.S, .int .i64 n0.T, .slice n0f3_b n0f3_n n0f3_c]] w [] (fun v N => v = .bool r0 ∧ N = []) := by
  unfold m_net_rules_6 at H
  refine Fnc.enter (vs := [.agg #[.int .i64 n0.N, .int .i64 n0.S, .int .i64 n0.T, .slice n0f3_b n0f3_n n0f3_c]]) Try.func118 rfl rfl (Inv.refl w) ?_
  refine T.seq ?_
  refine T.regionL (ll := [0, 1]) rfl ?_
  refine TO.boxA rfl rfl rfl rfl ?_; intro b1
  refine TO.assign rfl rfl rfl rfl ?_
  refine TO.done ?_
  refine X.seq_normal ?_
  refine T.seq ?_
  obtain ⟨⟨r3, r4⟩, e5, H⟩ := bd_some H
  refine T.regionL (ll := [0, 1, 2, 3, 4, 5, 6]) rfl ?_
  refine TO.loadA rfl rfl rfl rfl TWBS4.a24 mm0 rfl ?_
  refine TO.callX TWBS4.c119 rfl rfl rfl rfl (fun wc hwc => w_net_Sum (n0 := n0) wc (h_n0f3.mono hwc) e5) ?_
  rintro _ _ ⟨rfl, rfl⟩
  refine TO.move rfl rfl rfl rfl ?_
  refine TO.extract rfl rfl rfl rfl rfl ?_
  refine TO.extract rfl rfl rfl rfl rfl ?_
  refine TO.assign rfl rfl rfl rfl ?_
  refine TO.assign rfl rfl rfl rfl ?_
  refine TO.done ?_
  refine X.seq_normal ?_
  refine T.trim (AllF.cons (t := 4) rfl AllF.nil) ?_
  refine T.seq ?_
  refine T.regionL (ll := [0, 1]) rfl ?_
  refine TO.move rfl rfl rfl rfl ?_
  refine TO.assign rfl rfl rfl rfl ?_
  refine TO.done ?_
  refine X.seq_normal ?_
  refine T.ret ?_
  obtain rfl := ret1 H
  exact X.ret1 rfl rfl rfl rfl (Res.tmp rfl) Pick.nil ⟨rfl, rfl⟩
/-- acequia/net.Check -/
theorem w_net_Check {n0 : Net} {n0f3_b : Option Addr} {n0f3_n : Nat} {n0f3_c : Nat} (w : World) (h_n0f3 : RS w [] arcC 3 n0f3_b n0f3_n n0f3_c n0.Arcs) {r0 : Int} (H : m_net_Check n0 = some r0) : Fnc Try.prog 79 #[.agg #[.int .i64 n0.N, .int .i64 n0.S, .int .i64 n0.T, .slice n0f3_b n0f3_n n0f3_c]] w [] (fun v N => v = .int .i64 r0 ∧ N = []) := by
  unfold m_net_Check at H
  refine Fnc.enter (vs := [.agg #[.int .i64 n0.N, .int .i64 n0.S, .int .i64 n0.T, .slice n0f3_b n0f3_n n0f3_c]]) Try.func79 rfl rfl (Inv.refl w) ?_
  refine T.seq ?_
  refine T.regionL (ll := [0, 1]) rfl ?_
  refine TO.boxA rfl rfl rfl rfl ?_; intro b1
  refine TO.assign rfl rfl rfl rfl ?_
  refine TO.done ?_
  refine X.seq_normal ?_
  refine T.seq ?_
  refine T.seq ?_
  obtain ⟨⟨⟩, e3, H⟩ := bd_some H
  refine T.regionL (ll := [0, 1]) rfl ?_
  refine TO.callX TWBS4.c102 rfl rfl rfl rfl (fun wc hwc => w_net_rules  wc  e3) ?_
  rintro _ _ ⟨b4, b5, rfl, rfl⟩
  refine TO.move rfl rfl rfl rfl ?_
  refine TO.done ?_
  refine X.seq_normal ?_
  refine T.meetSE1 (fun (u38 : Unit) => m_net_Check_j1 = some r0) (fun (u38 : Unit) => []) (fun (u38 : Unit) => []) ?_ ?_
  ·
    refine T.block ?_
    refine T.loopU ?_
    refine RT.round ?_
    refine T.seq ?_
    refine T.regionL (ll := [0]) rfl ?_
    refine TO.binK (b := true) rfl rfl rfl rfl rfl rfl (by first | decide | rfl) ?_
    refine TO.done ?_
    refine X.seq_normal ?_
    refine T.seq ?_
    refine T.condT rfl rfl ?_
    refine T.skip ?_
    refine X.seq_normal ?_
    refine T.seq ?_
    refine T.block ?_
    refine T.seq ?_
    refine T.regionL (ll := [0, 1, 2]) rfl ?_
    refine TO.indexA (vs := [.func (.func 111) #[] #[], .int .i64 10]) rfl rfl rfl rfl rfl TWBS4.r137 TWBS4.a136 (by decide) rfl ?_
    refine TO.allocA rfl rfl rfl TWBS4.z136 ?_; intro b8
    refine TO.storeA rfl rfl rfl rfl tk0 TWBS4.n136 rfl rfl rfl ?_
    refine TO.done ?_
    refine X.seq_normal ?_
    refine T.seq ?_
    obtain ⟨r10, e11, H⟩ := bd_some H
    refine T.regionL (ll := [0, 1, 2, 3, 4]) rfl ?_
    refine TO.fieldAddr0 rfl rfl rfl rfl TWBS4.f136_0 ?_
    refine TO.load1 rfl rfl rfl rfl TWBS4.s83 mm0 rfl ?_
    refine TO.loadA rfl rfl rfl rfl TWBS4.a24 mm3 rfl ?_
    refine TO.callVX TWBS4.c111 rfl rfl rfl rfl rfl (fun wc hwc => w_net_rules_1 (n0 := n0) wc (h_n0f3.mono hwc) e11) ?_
    rintro _ _ ⟨rfl, rfl⟩
    refine TO.not rfl rfl rfl rfl ?_
    refine TO.done ?_
    refine X.seq_normal ?_
    refine T.trim (AllF.cons (t := 1) rfl (AllF.cons (t := 5) rfl (AllF.cons (t := 6) rfl (AllF.cons (t := 4) rfl (AllF.cons (t := 13) rfl AllF.nil))))) ?_
    rcases ite_some H with ⟨g12, H⟩ | ⟨g12, H⟩
    ·
      refine T.condT rfl g12 ?_
      refine T.seq ?_
      refine T.regionL (ll := [0, 1, 2]) rfl ?_
      refine TO.fieldAddr0 rfl rfl rfl rfl TWBS4.f136_1 ?_
      refine TO.load1 rfl rfl rfl rfl TWBS4.s33 mm0 rfl ?_
      refine TO.assign rfl rfl rfl rfl ?_
      refine TO.done ?_
      refine X.seq_normal ?_
      refine T.ret ?_
      refine X.block_ret ?_
      refine X.then_ret ?_
      refine X.then_ret ?_
      refine X.block_ret ?_
      refine X.then_ret ?_
      obtain rfl := ret1 H
      exact X.ret1 rfl rfl rfl rfl (Res.tmp rfl) Pick.nil ⟨rfl, rfl⟩
    ·
      refine T.condF rfl (Bool.eq_false_iff.2 g12) ?_
      refine T.skip ?_
      refine X.block_normal ?_
      refine X.seq_normal ?_
      refine T.regionL (ll := [0, 1]) rfl ?_
      refine TO.addL (r := 1) (by decide) rfl rfl rfl rfl rfl ?_
      refine TO.move rfl rfl rfl rfl ?_
      refine TO.done ?_
      refine X.round ?_
      refine RT.round ?_
      refine T.seq ?_
      refine T.regionL (ll := [0]) rfl ?_
      refine TO.binK (b := true) rfl rfl rfl rfl rfl rfl (by first | decide | rfl) ?_
      refine TO.done ?_
      refine X.seq_normal ?_
      refine T.seq ?_
      refine T.condT rfl rfl ?_
      refine T.skip ?_
      refine X.seq_normal ?_
      refine T.seq ?_
      refine T.block ?_
      refine T.seq ?_
      refine T.regionL (ll := [0, 1, 2]) rfl ?_
      refine TO.indexA (vs := [.func (.func 112) #[] #[], .int .i64 11]) rfl rfl rfl rfl rfl TWBS4.r137 TWBS4.a136 (by decide) rfl ?_
      refine TO.allocA rfl rfl rfl TWBS4.z136 ?_; intro b13
      refine TO.storeA rfl rfl rfl rfl tk0 TWBS4.n136 rfl rfl rfl ?_
      refine TO.done ?_
      refine X.seq_normal ?_
      refine T.seq ?_
      obtain ⟨r15, e16, H⟩ := bd_some H
      refine T.regionL (ll := [0, 1, 2, 3, 4]) rfl ?_
      refine TO.fieldAddr0 rfl rfl rfl rfl TWBS4.f136_0 ?_
      refine TO.load1 rfl rfl rfl rfl TWBS4.s83 mm0 rfl ?_
      refine TO.loadA rfl rfl rfl rfl TWBS4.a24 mm4 rfl ?_
      refine TO.callVX TWBS4.c112 rfl rfl rfl rfl rfl (fun wc hwc => w_net_rules_2 (n0 := n0) wc (h_n0f3.mono hwc) e16) ?_
      rintro _ _ ⟨rfl, rfl⟩
      refine TO.not rfl rfl rfl rfl ?_
      refine TO.done ?_
      refine X.seq_normal ?_
      rcases ite_some H with ⟨g17, H⟩ | ⟨g17, H⟩
      ·
        refine T.condT rfl g17 ?_
        refine T.seq ?_
        refine T.regionL (ll := [0, 1, 2]) rfl ?_
        refine TO.fieldAddr0 rfl rfl rfl rfl TWBS4.f136_1 ?_
        refine TO.load1 rfl rfl rfl rfl TWBS4.s33 mm0 rfl ?_
        refine TO.assign rfl rfl rfl rfl ?_
        refine TO.done ?_
        refine X.seq_normal ?_
        refine T.trim (AllF.cons (t := 2) rfl AllF.nil) ?_
        refine T.ret ?_
        refine X.block_ret ?_
        refine X.then_ret ?_
        refine X.then_ret ?_
        refine X.block_ret ?_
        refine X.then_ret ?_
        obtain rfl := ret1 H
        exact X.ret1 rfl rfl rfl rfl (Res.tmp rfl) Pick.nil ⟨rfl, rfl⟩
      ·
        refine T.condF rfl (Bool.eq_false_iff.2 g17) ?_
        refine T.skip ?_
        refine X.block_normal ?_
        refine X.seq_normal ?_
        refine T.trim (AllF.cons (t := 1) rfl (AllF.cons (t := 5) rfl (AllF.cons (t := 6) rfl AllF.nil))) ?_
        refine T.regionL (ll := [0, 1]) rfl ?_
        refine TO.addL (r := 2) (by decide) rfl rfl rfl rfl rfl ?_
        refine TO.move rfl rfl rfl rfl ?_
        refine TO.done ?_
        refine X.round ?_
        refine RT.round ?_
        refine T.seq ?_
        refine T.regionL (ll := [0]) rfl ?_
        refine TO.binK (b := true) rfl rfl rfl rfl rfl rfl (by first | decide | rfl) ?_
        refine TO.done ?_
        refine X.seq_normal ?_
        refine T.seq ?_
        refine T.condT rfl rfl ?_
        refine T.skip ?_
        refine X.seq_normal ?_
        refine T.seq ?_
        refine T.block ?_
        refine T.seq ?_
        refine T.regionL (ll := [0, 1, 2]) rfl ?_
        refine TO.indexA (vs := [.func (.func 113) #[] #[], .int .i64 12]) rfl rfl rfl rfl rfl TWBS4.r137 TWBS4.a136 (by decide) rfl ?_
        refine TO.allocA rfl rfl rfl TWBS4.z136 ?_; intro b18
        refine TO.storeA rfl rfl rfl rfl tk0 TWBS4.n136 rfl rfl rfl ?_
        refine TO.done ?_
        refine X.seq_normal ?_
        refine T.seq ?_
        obtain ⟨r20, e21, H⟩ := bd_some H
        refine T.regionL (ll := [0, 1, 2, 3, 4]) rfl ?_
        refine TO.fieldAddr0 rfl rfl rfl rfl TWBS4.f136_0 ?_
        refine TO.load1 rfl rfl rfl rfl TWBS4.s83 mm0 rfl ?_
        refine TO.loadA rfl rfl rfl rfl TWBS4.a24 mm5 rfl ?_
        refine TO.callVX TWBS4.c113 rfl rfl rfl rfl rfl (fun wc hwc => w_net_rules_3 (n0 := n0) wc (h_n0f3.mono hwc) e21) ?_
        rintro _ _ ⟨rfl, rfl⟩
        refine TO.not rfl rfl rfl rfl ?_
        refine TO.done ?_
        refine X.seq_normal ?_
        rcases ite_some H with ⟨g22, H⟩ | ⟨g22, H⟩
        ·
          refine T.condT rfl g22 ?_
          refine T.seq ?_
          refine T.regionL (ll := [0, 1, 2]) rfl ?_
          refine TO.fieldAddr0 rfl rfl rfl rfl TWBS4.f136_1 ?_
          refine TO.load1 rfl rfl rfl rfl TWBS4.s33 mm0 rfl ?_
          refine TO.assign rfl rfl rfl rfl ?_
          refine TO.done ?_
          refine X.seq_normal ?_
          refine T.trim (AllF.cons (t := 2) rfl AllF.nil) ?_
          refine T.ret ?_
          refine X.block_ret ?_
          refine X.then_ret ?_
          refine X.then_ret ?_
          refine X.block_ret ?_
          refine X.then_ret ?_
          obtain rfl := ret1 H
          exact X.ret1 rfl rfl rfl rfl (Res.tmp rfl) Pick.nil ⟨rfl, rfl⟩
        ·
          refine T.condF rfl (Bool.eq_false_iff.2 g22) ?_
          refine T.skip ?_
          refine X.block_normal ?_
          refine X.seq_normal ?_
          refine T.trim (AllF.cons (t := 1) rfl (AllF.cons (t := 5) rfl (AllF.cons (t := 6) rfl AllF.nil))) ?_
          refine T.regionL (ll := [0, 1]) rfl ?_
          refine TO.addL (r := 3) (by decide) rfl rfl rfl rfl rfl ?_
          refine TO.move rfl rfl rfl rfl ?_
          refine TO.done ?_
          refine X.round ?_
          refine RT.round ?_
          refine T.seq ?_
          refine T.regionL (ll := [0]) rfl ?_
          refine TO.binK (b := true) rfl rfl rfl rfl rfl rfl (by first | decide | rfl) ?_
          refine TO.done ?_
          refine X.seq_normal ?_
          refine T.seq ?_
          refine T.condT rfl rfl ?_
          refine T.skip ?_
          refine X.seq_normal ?_
          refine T.seq ?_
          refine T.block ?_
          refine T.seq ?_
          refine T.regionL (ll := [0, 1, 2]) rfl ?_
          refine TO.indexA (vs := [.func (.func 121) #[] #[.pointer (some ⟨b4, 0, none⟩)], .int .i64 13]) rfl rfl rfl rfl rfl TWBS4.r137 TWBS4.a136 (by decide) rfl ?_
          refine TO.allocA rfl rfl rfl TWBS4.z136 ?_; intro b23
          refine TO.storeA rfl rfl rfl rfl tk0 TWBS4.n136 rfl rfl rfl ?_
          refine TO.done ?_
          refine X.seq_normal ?_
          refine T.seq ?_
          obtain ⟨r25, e26, H⟩ := bd_some H
          refine T.regionL (ll := [0, 1, 2, 3, 4]) rfl ?_
          refine TO.fieldAddr0 rfl rfl rfl rfl TWBS4.f136_0 ?_
          refine TO.load1 rfl rfl rfl rfl TWBS4.s83 mm0 rfl ?_
          refine TO.loadA rfl rfl rfl rfl TWBS4.a24 mm6 rfl ?_
          refine TO.callVX TWBS4.c121 rfl rfl rfl rfl rfl (fun wc hwc => w_net_of_1_rules_4 (n0 := n0) wc (h_n0f3.mono hwc) (hwc.hb (cs := [.func (.func 116) #[] #[]]) mm4) e26) ?_
          rintro _ _ ⟨rfl, rfl⟩
          refine TO.not rfl rfl rfl rfl ?_
          refine TO.done ?_
          refine X.seq_normal ?_
          rcases ite_some H with ⟨g27, H⟩ | ⟨g27, H⟩
          ·
            refine T.condT rfl g27 ?_
            refine T.seq ?_
            refine T.regionL (ll := [0, 1, 2]) rfl ?_
            refine TO.fieldAddr0 rfl rfl rfl rfl TWBS4.f136_1 ?_
            refine TO.load1 rfl rfl rfl rfl TWBS4.s33 mm0 rfl ?_
            refine TO.assign rfl rfl rfl rfl ?_
            refine TO.done ?_
            refine X.seq_normal ?_
            refine T.trim (AllF.cons (t := 2) rfl AllF.nil) ?_
            refine T.ret ?_
            refine X.block_ret ?_
            refine X.then_ret ?_
            refine X.then_ret ?_
            refine X.block_ret ?_
            refine X.then_ret ?_
            obtain rfl := ret1 H
            exact X.ret1 rfl rfl rfl rfl (Res.tmp rfl) Pick.nil ⟨rfl, rfl⟩
          ·
            refine T.condF rfl (Bool.eq_false_iff.2 g27) ?_
            refine T.skip ?_
            refine X.block_normal ?_
            refine X.seq_normal ?_
            refine T.trim (AllF.cons (t := 1) rfl (AllF.cons (t := 5) rfl (AllF.cons (t := 6) rfl AllF.nil))) ?_
            refine T.regionL (ll := [0, 1]) rfl ?_
            refine TO.addL (r := 4) (by decide) rfl rfl rfl rfl rfl ?_
            refine TO.move rfl rfl rfl rfl ?_
            refine TO.done ?_
            refine X.round ?_
            refine RT.round ?_
            refine T.seq ?_
            refine T.regionL (ll := [0]) rfl ?_
            refine TO.binK (b := true) rfl rfl rfl rfl rfl rfl (by first | decide | rfl) ?_
            refine TO.done ?_
            refine X.seq_normal ?_
            refine T.seq ?_
            refine T.condT rfl rfl ?_
            refine T.skip ?_
            refine X.seq_normal ?_
            refine T.seq ?_
            refine T.block ?_
            refine T.seq ?_
            refine T.regionL (ll := [0, 1, 2]) rfl ?_
            refine TO.indexA (vs := [.func (.func 121) #[] #[.pointer (some ⟨b5, 0, none⟩)], .int .i64 14]) rfl rfl rfl rfl rfl TWBS4.r137 TWBS4.a136 (by decide) rfl ?_
            refine TO.allocA rfl rfl rfl TWBS4.z136 ?_; intro b28
            refine TO.storeA rfl rfl rfl rfl tk0 TWBS4.n136 rfl rfl rfl ?_
            refine TO.done ?_
            refine X.seq_normal ?_
            refine T.seq ?_
            obtain ⟨r30, e31, H⟩ := bd_some H
            refine T.regionL (ll := [0, 1, 2, 3, 4]) rfl ?_
            refine TO.fieldAddr0 rfl rfl rfl rfl TWBS4.f136_0 ?_
            refine TO.load1 rfl rfl rfl rfl TWBS4.s83 mm0 rfl ?_
            refine TO.loadA rfl rfl rfl rfl TWBS4.a24 mm7 rfl ?_
            refine TO.callVX TWBS4.c121 rfl rfl rfl rfl rfl (fun wc hwc => w_net_of_1_rules_5 (n0 := n0) wc (h_n0f3.mono hwc) (hwc.hb (cs := [.func (.func 117) #[] #[]]) mm6) e31) ?_
            rintro _ _ ⟨rfl, rfl⟩
            refine TO.not rfl rfl rfl rfl ?_
            refine TO.done ?_
            refine X.seq_normal ?_
            rcases ite_some H with ⟨g32, H⟩ | ⟨g32, H⟩
            ·
              refine T.condT rfl g32 ?_
              refine T.seq ?_
              refine T.regionL (ll := [0, 1, 2]) rfl ?_
              refine TO.fieldAddr0 rfl rfl rfl rfl TWBS4.f136_1 ?_
              refine TO.load1 rfl rfl rfl rfl TWBS4.s33 mm0 rfl ?_
              refine TO.assign rfl rfl rfl rfl ?_
              refine TO.done ?_
              refine X.seq_normal ?_
              refine T.trim (AllF.cons (t := 2) rfl AllF.nil) ?_
              refine T.ret ?_
              refine X.block_ret ?_
              refine X.then_ret ?_
              refine X.then_ret ?_
              refine X.block_ret ?_
              refine X.then_ret ?_
              obtain rfl := ret1 H
              exact X.ret1 rfl rfl rfl rfl (Res.tmp rfl) Pick.nil ⟨rfl, rfl⟩
            ·
              refine T.condF rfl (Bool.eq_false_iff.2 g32) ?_
              refine T.skip ?_
              refine X.block_normal ?_
              refine X.seq_normal ?_
              refine T.trim (AllF.cons (t := 1) rfl (AllF.cons (t := 5) rfl (AllF.cons (t := 6) rfl AllF.nil))) ?_
              refine T.regionL (ll := [0, 1]) rfl ?_
              refine TO.addL (r := 5) (by decide) rfl rfl rfl rfl rfl ?_
              refine TO.move rfl rfl rfl rfl ?_
              refine TO.done ?_
              refine X.round ?_
              refine RT.round ?_
              refine T.seq ?_
              refine T.regionL (ll := [0]) rfl ?_
              refine TO.binK (b := true) rfl rfl rfl rfl rfl rfl (by first | decide | rfl) ?_
              refine TO.done ?_
              refine X.seq_normal ?_
              refine T.seq ?_
              refine T.condT rfl rfl ?_
              refine T.skip ?_
              refine X.seq_normal ?_
              refine T.seq ?_
              refine T.block ?_
              refine T.seq ?_
              refine T.regionL (ll := [0, 1, 2]) rfl ?_
              refine TO.indexA (vs := [.func (.func 118) #[] #[], .int .i64 15]) rfl rfl rfl rfl rfl TWBS4.r137 TWBS4.a136 (by decide) rfl ?_
              refine TO.allocA rfl rfl rfl TWBS4.z136 ?_; intro b33
              refine TO.storeA rfl rfl rfl rfl tk0 TWBS4.n136 rfl rfl rfl ?_
              refine TO.done ?_
              refine X.seq_normal ?_
              refine T.seq ?_
              obtain ⟨r35, e36, H⟩ := bd_some H
              refine T.regionL (ll := [0, 1, 2, 3, 4]) rfl ?_
              refine TO.fieldAddr0 rfl rfl rfl rfl TWBS4.f136_0 ?_
              refine TO.load1 rfl rfl rfl rfl TWBS4.s83 mm0 rfl ?_
              refine TO.loadA rfl rfl rfl rfl TWBS4.a24 mm8 rfl ?_
              refine TO.callVX TWBS4.c118 rfl rfl rfl rfl rfl (fun wc hwc => w_net_rules_6 (n0 := n0) wc (h_n0f3.mono hwc) e36) ?_
              rintro _ _ ⟨rfl, rfl⟩
              refine TO.not rfl rfl rfl rfl ?_
              refine TO.done ?_
              refine X.seq_normal ?_
              rcases ite_some H with ⟨g37, H⟩ | ⟨g37, H⟩
              ·
                refine T.condT rfl g37 ?_
                refine T.seq ?_
                refine T.regionL (ll := [0, 1, 2]) rfl ?_
                refine TO.fieldAddr0 rfl rfl rfl rfl TWBS4.f136_1 ?_
                refine TO.load1 rfl rfl rfl rfl TWBS4.s33 mm0 rfl ?_
                refine TO.assign rfl rfl rfl rfl ?_
                refine TO.done ?_
                refine X.seq_normal ?_
                refine T.trim (AllF.cons (t := 2) rfl AllF.nil) ?_
                refine T.ret ?_
                refine X.block_ret ?_
                refine X.then_ret ?_
                refine X.then_ret ?_
                refine X.block_ret ?_
                refine X.then_ret ?_
                obtain rfl := ret1 H
                exact X.ret1 rfl rfl rfl rfl (Res.tmp rfl) Pick.nil ⟨rfl, rfl⟩
              ·
                refine T.condF rfl (Bool.eq_false_iff.2 g37) ?_
                refine T.skip ?_
                refine X.block_normal ?_
                refine X.seq_normal ?_
                refine T.trim (AllF.cons (t := 1) rfl (AllF.cons (t := 5) rfl (AllF.cons (t := 6) rfl AllF.nil))) ?_
                refine T.regionL (ll := [0, 1]) rfl ?_
                refine TO.addL (r := 6) (by decide) rfl rfl rfl rfl rfl ?_
                refine TO.move rfl rfl rfl rfl ?_
                refine TO.done ?_
                refine X.round ?_
                refine RT.round ?_
                refine T.seq ?_
                refine T.regionL (ll := [0]) rfl ?_
                refine TO.binK (b := false) rfl rfl rfl rfl rfl rfl (by first | decide | rfl) ?_
                refine TO.done ?_
                refine X.seq_normal ?_
                refine T.seq ?_
                refine T.condF rfl rfl ?_
                refine T.exit ?_
                refine X.then_exit ?_
                refine X.then_exit ?_
                refine X.block_here ?_
                exact X.metE1 () H AllF.nil Pick.nil
  · rintro u38 H
    unfold m_net_Check_j1 at H
    refine T.seq ?_
    refine T.regionL (ll := [0]) rfl ?_
    refine TO.assign rfl rfl rfl rfl ?_
    refine TO.done ?_
    refine X.seq_normal ?_
    refine T.ret ?_
    obtain rfl := ret1 H
    exact X.ret1 rfl rfl rfl rfl (Res.tmp rfl) Pick.nil ⟨rfl, rfl⟩
/-- acequia/csr.counted -/
theorem w_csr_counted {n0 : Net} {n0f3_b : Option Addr} {n0f3_n : Nat} {n0f3_c : Nat} (w : World) (h_n0f3 : RS w [] arcC 3 n0f3_b n0f3_n n0f3_c n0.Arcs) {r0 : List Int} (H : m_csr_counted n0 = some r0) : Fnc Try.prog 85 #[.agg #[.int .i64 n0.N, .int .i64 n0.S, .int .i64 n0.T, .slice n0f3_b n0f3_n n0f3_c]] w [] (fun v N => ∃ (ob_0 : Option Nat) (n_0 : Nat) (c_0 : Nat) (j_0 : List Value), v = .slice (sb ob_0) n_0 c_0 ∧ N = [(ob_0, .cells (arr (intC .i64) r0 j_0).toArray 3 (0, 0))] ∧ r0.length = n_0 ∧ n_0 ≤ c_0 ∧ j_0.length = (c_0 - n_0) * 1 ∧ (ob_0 = none → c_0 = 0)) := by
  unfold m_csr_counted at H
  refine Fnc.enter (vs := [.agg #[.int .i64 n0.N, .int .i64 n0.S, .int .i64 n0.T, .slice n0f3_b n0f3_n n0f3_c]]) Try.func85 rfl rfl (Inv.refl w) ?_
  refine T.seq ?_
  refine T.regionL (ll := [0, 1]) rfl ?_
  refine TO.boxA rfl rfl rfl rfl ?_; intro b1
  refine TO.assign rfl rfl rfl rfl ?_
  refine TO.done ?_
  refine X.seq_normal ?_
  refine T.seq ?_
  obtain ⟨g3, H⟩ := gd_some H
  obtain ⟨g4, H⟩ := gd_some H
  refine T.regionL (ll := [0, 1, 2, 3, 4]) rfl ?_
  refine TO.fieldAddr0 rfl rfl rfl rfl TWBS4.f24_0 ?_
  refine TO.load1 rfl rfl rfl rfl TWBS4.s3 mm0 rfl ?_
  refine TO.addG g3 rfl rfl rfl rfl rfl ?_
  refine TO.mkI g4 rfl rfl rfl rfl rfl TWBS4.l27 TWBS4.n3 TWBS4.z3 TWBS4.b3 rfl ?_; intro b5
  refine TO.assign rfl rfl rfl rfl ?_
  refine TO.done ?_
  refine X.seq_normal ?_
  refine T.seq ?_
  refine T.seq ?_
  refine T.regionL (ll := [0, 1, 2, 3]) rfl ?_
  refine TO.fieldAddr0 rfl rfl rfl rfl TWBS4.f24_3 ?_
  refine TO.load1 rfl rfl rfl rfl TWBS4.s22 mm1 rfl ?_
  refine TO.lenX (xs := n0.Arcs) h_n0f3.len rfl rfl rfl rfl rfl TWBS4.l22 ?_
  refine TO.move rfl rfl rfl rfl ?_
  refine TO.done ?_
  refine X.seq_normal ?_
  refine T.meetSE1 (fun (xs25 : List Int) => m_csr_counted_j2 n0 xs25 = some r0 ∧ xs25.length = (n0.N + 1).toNat) (fun (xs25 : List Int) => [(1, .pointer (some ⟨b1, 0, none⟩)), (3, .slice (some ⟨b5, 0, none⟩) ((n0.N + 1).toNat) ((n0.N + 1).toNat))]) (fun (xs25 : List Int) => [(some b1, .cells #[.int .i64 n0.N, .int .i64 n0.S, .int .i64 n0.T, .slice n0f3_b n0f3_n n0f3_c] 24 (0, 0)), (some b5, .cells (arr (intC .i64) xs25 ([])).toArray 3 (0, 0))]) ?_ ?_
  ·
    refine T.block ?_
    obtain ⟨o_1, e_1, K_1⟩ := bd_some H
    refine T.loopE3 (fun (m_1 : Nat) (xs7 : List Int) (x9 : Int) => loopM (fun s => m_csr_counted_s1 n0 s.1 s.2) m_1 (xs7, x9) = some o_1 ∧ xs7.length = (n0.N + 1).toNat) (fun (m_1 : Nat) (xs7 : List Int) (x9 : Int) => [(1, .pointer (some ⟨b1, 0, none⟩)), (3, .slice (some ⟨b5, 0, none⟩) ((n0.N + 1).toNat) ((n0.N + 1).toNat)), (12, .slice n0f3_b n0f3_n n0f3_c), (13, .int .i64 (n0.Arcs.length : Int)), (14, .int .i64 x9)]) (fun (m_1 : Nat) (xs7 : List Int) (x9 : Int) => [(some b1, .cells #[.int .i64 n0.N, .int .i64 n0.S, .int .i64 n0.T, .slice n0f3_b n0f3_n n0f3_c] 24 (0, 0)), (some b5, .cells (arr (intC .i64) xs7 ([])).toArray 3 (0, 0))]) (fun (m_1 : Nat) (xs7 : List Int) (x9 : Int) => m_1) FUEL (List.replicate ((n0.N + 1).toNat) (0 : Int)) 0 ⟨e_1, List.length_replicate⟩ (AllF.cons rfl (AllF.cons rfl (AllF.cons rfl (AllF.cons rfl (AllF.cons rfl AllF.nil))))) (Pick.cons tk1 (Pick.cons tk0 Pick.nil)) ?_
    rintro m_1 xs7 x9 ⟨H, hn8⟩
    obtain ⟨n_1, r_1, rfl, H, C_1⟩ := loopM_some H
    have H : m_csr_counted_s1 n0 xs7 x9 = some r_1 := H
    unfold m_csr_counted_s1 at H
    refine T.seq ?_
    refine T.regionL (ll := [0]) rfl ?_
    refine TO.bin rfl rfl rfl rfl rfl rfl ?_
    refine TO.done ?_
    refine X.seq_normal ?_
    refine T.seq ?_
    rcases ite_some H with ⟨g10, H⟩ | ⟨g10, H⟩
    ·
      refine T.condPT rfl g10 ?_
      refine T.skip ?_
      refine X.seq_normal ?_
      refine T.seq ?_
      refine T.block ?_
      refine T.seq ?_
      obtain ⟨g11, H⟩ := gd_some H
      refine T.regionL (ll := [0, 1, 2, 3]) rfl ?_
      refine TO.ixR h_n0f3 g11 rfl rfl rfl rfl rfl TWBS4.l22 TWBS4.n67 ?_
      refine TO.ldSR (cs := [.int .i64 ((n0.Arcs.getD x9.toNat default).fr), .int .i64 ((n0.Arcs.getD x9.toNat default).to), .int .i64 ((n0.Arcs.getD x9.toNat default).cap)]) default h_n0f3 g11 rfl rfl rfl rfl rfl TWBS4.a67 ?_
      refine TO.allocA rfl rfl rfl TWBS4.z67 ?_; intro b12
      refine TO.storeA rfl rfl rfl rfl tk0 TWBS4.n67 rfl rfl rfl ?_
      refine TO.done ?_
      refine X.seq_normal ?_
      refine T.seq ?_
      refine T.regionL (ll := [0, 1, 2, 3, 4]) rfl ?_
      refine TO.fieldAddr0 rfl rfl rfl rfl TWBS4.f67_0 ?_
      refine TO.load1 rfl rfl rfl rfl TWBS4.s3 mm0 rfl ?_
      refine TO.fieldAddr0 rfl rfl rfl rfl TWBS4.f67_1 ?_
      refine TO.load1 rfl rfl rfl rfl TWBS4.s3 mm0 rfl ?_
      refine TO.bin rfl rfl rfl rfl rfl rfl ?_
      refine TO.done ?_
      refine X.seq_normal ?_
      rcases ite_some H with ⟨g14, H⟩ | ⟨g14, H⟩
      ·
        refine T.condPT rfl g14 ?_
        refine T.seq ?_
        obtain ⟨g15, H⟩ := gd_some H
        obtain ⟨g16, H⟩ := gd_some H
        obtain ⟨g17, H⟩ := gd_some H
        obtain ⟨g18, H⟩ := gd_some H
        refine T.regionL (ll := [0, 1, 2, 3, 4, 5, 6, 7, 8]) rfl ?_
        refine TO.move rfl rfl rfl rfl ?_
        refine TO.fieldAddr0 rfl rfl rfl rfl TWBS4.f67_0 ?_
        refine TO.load1 rfl rfl rfl rfl TWBS4.s3 mm0 rfl ?_
        refine TO.addG g15 rfl rfl rfl rfl rfl ?_
        refine TO.ix1 hn8 g16 rfl rfl rfl rfl rfl TWBS4.l27 TWBS4.n3 ?_
        refine TO.ldIO g16 rfl rfl rfl rfl TWBS4.s3 mm2 ?_
        refine TO.addG g17 rfl rfl rfl rfl rfl ?_
        refine TO.ix1 hn8 g18 rfl rfl rfl rfl rfl TWBS4.l27 TWBS4.n3 ?_
        refine TO.stIO g18 rfl rfl rfl rfl tk2 TWBS4.n3 ?_
        refine TO.done ?_
        refine X.seq_normal ?_
        refine T.trim (AllF.cons (t := 1) rfl (AllF.cons (t := 3) rfl (AllF.cons (t := 12) rfl (AllF.cons (t := 13) rfl (AllF.cons (t := 14) rfl (AllF.cons (t := 5) rfl AllF.nil)))))) ?_
        obtain ⟨g19, H⟩ := gd_some H
        obtain ⟨g20, H⟩ := gd_some H
        obtain ⟨g21, H⟩ := gd_some H
        obtain ⟨g22, H⟩ := gd_some H
        refine T.regionL (ll := [0, 1, 2, 3, 4, 5, 6, 7, 8]) rfl ?_
        refine TO.move rfl rfl rfl rfl ?_
        refine TO.fieldAddr0 rfl rfl rfl rfl TWBS4.f67_1 ?_
        refine TO.load1 rfl rfl rfl rfl TWBS4.s3 mm1 rfl ?_
        refine TO.addG g19 rfl rfl rfl rfl rfl ?_
        refine TO.ix1 (List.length_set.trans hn8) g20 rfl rfl rfl rfl rfl TWBS4.l27 TWBS4.n3 ?_
        refine TO.ldIO g20 rfl rfl rfl rfl TWBS4.s3 mm0 ?_
        refine TO.addG g21 rfl rfl rfl rfl rfl ?_
        refine TO.ix1 (List.length_set.trans hn8) g22 rfl rfl rfl rfl rfl TWBS4.l27 TWBS4.n3 ?_
        refine TO.stIO g22 rfl rfl rfl rfl tk0 TWBS4.n3 ?_
        refine TO.done ?_
        refine X.block_normal ?_
        refine X.seq_normal ?_
        refine T.trim (AllF.cons (t := 1) rfl (AllF.cons (t := 3) rfl (AllF.cons (t := 12) rfl (AllF.cons (t := 13) rfl (AllF.cons (t := 14) rfl AllF.nil))))) ?_
        obtain ⟨g23, H⟩ := gd_some H
        refine T.regionL (ll := [0, 1]) rfl ?_
        refine TO.addG g23 rfl rfl rfl rfl rfl ?_
        refine TO.move rfl rfl rfl rfl ?_
        refine TO.done ?_
        have H := loop_next H C_1
        exact X.againE3 n_1 ((xs7.set (((n0.Arcs.getD x9.toNat default).fr) + 1).toNat ((xs7.getD (((n0.Arcs.getD x9.toNat default).fr) + 1).toNat 0) + 1)).set (((n0.Arcs.getD x9.toNat default).to) + 1).toNat (((xs7.set (((n0.Arcs.getD x9.toNat default).fr) + 1).toNat ((xs7.getD (((n0.Arcs.getD x9.toNat default).fr) + 1).toNat 0) + 1)).getD (((n0.Arcs.getD x9.toNat default).to) + 1).toNat 0) + 1)) (x9 + 1) ⟨H, (List.length_set.trans (List.length_set.trans hn8))⟩ (Nat.lt_succ_self _) (AllF.cons rfl (AllF.cons rfl (AllF.cons rfl (AllF.cons rfl (AllF.cons rfl AllF.nil))))) (Pick.cons tk2 (Pick.cons tk0 Pick.nil))
      ·
        refine T.condPF rfl g14 ?_
        refine T.skip ?_
        refine X.block_normal ?_
        refine X.seq_normal ?_
        refine T.trim (AllF.cons (t := 1) rfl (AllF.cons (t := 3) rfl (AllF.cons (t := 12) rfl (AllF.cons (t := 13) rfl (AllF.cons (t := 14) rfl AllF.nil))))) ?_
        obtain ⟨g24, H⟩ := gd_some H
        refine T.regionL (ll := [0, 1]) rfl ?_
        refine TO.addG g24 rfl rfl rfl rfl rfl ?_
        refine TO.move rfl rfl rfl rfl ?_
        refine TO.done ?_
        have H := loop_next H C_1
        exact X.againE3 n_1 xs7 (x9 + 1) ⟨H, hn8⟩ (Nat.lt_succ_self _) (AllF.cons rfl (AllF.cons rfl (AllF.cons rfl (AllF.cons rfl (AllF.cons rfl AllF.nil))))) (Pick.cons tk1 (Pick.cons tk1 Pick.nil))
    ·
      refine T.condPF rfl g10 ?_
      refine T.exit ?_
      refine X.then_exit ?_
      have H := loop_exitE H C_1 ▸ K_1
      refine X.then_exit ?_
      refine X.block_here ?_
      exact X.metE1 xs7 ⟨H, hn8⟩ (AllF.cons rfl (AllF.cons rfl AllF.nil)) (Pick.cons tk0 (Pick.cons tk0 Pick.nil))
  · rintro xs25 ⟨H, hn26⟩
    unfold m_csr_counted_j2 at H
    refine T.seq ?_
    refine T.seq ?_
    refine T.regionL (ll := [0, 1, 2]) rfl ?_
    refine TO.fieldAddr0 rfl rfl rfl rfl TWBS4.f24_0 ?_
    refine TO.load1 rfl rfl rfl rfl TWBS4.s3 mm0 rfl ?_
    refine TO.move rfl rfl rfl rfl ?_
    refine TO.done ?_
    refine X.seq_normal ?_
    refine T.meetSE1 (fun (xs37 : List Int) => m_csr_counted_j4 xs37 = some r0 ∧ xs37.length = (n0.N + 1).toNat) (fun (xs37 : List Int) => [(3, .slice (some ⟨b5, 0, none⟩) ((n0.N + 1).toNat) ((n0.N + 1).toNat))]) (fun (xs37 : List Int) => [(some b5, .cells (arr (intC .i64) xs37 ([])).toArray 3 (0, 0))]) ?_ ?_
    ·
      refine T.block ?_
      obtain ⟨o_3, e_3, K_3⟩ := bd_some H
      refine T.loopE3 (fun (m_3 : Nat) (xs27 : List Int) (x29 : Int) => loopM (fun s => m_csr_counted_s3 n0 s.1 s.2) m_3 (xs27, x29) = some o_3 ∧ xs27.length = (n0.N + 1).toNat) (fun (m_3 : Nat) (xs27 : List Int) (x29 : Int) => [(3, .slice (some ⟨b5, 0, none⟩) ((n0.N + 1).toNat) ((n0.N + 1).toNat)), (41, .int .i64 n0.N), (42, .int .i64 x29)]) (fun (m_3 : Nat) (xs27 : List Int) (x29 : Int) => [(some b5, .cells (arr (intC .i64) xs27 ([])).toArray 3 (0, 0))]) (fun (m_3 : Nat) (xs27 : List Int) (x29 : Int) => m_3) FUEL xs25 0 ⟨e_3, hn26⟩ (AllF.cons rfl (AllF.cons rfl (AllF.cons rfl AllF.nil))) (Pick.cons tk1 Pick.nil) ?_
      rintro m_3 xs27 x29 ⟨H, hn28⟩
      obtain ⟨n_3, r_3, rfl, H, C_3⟩ := loopM_some H
      have H : m_csr_counted_s3 n0 xs27 x29 = some r_3 := H
      unfold m_csr_counted_s3 at H
      refine T.seq ?_
      refine T.regionL (ll := [0]) rfl ?_
      refine TO.bin rfl rfl rfl rfl rfl rfl ?_
      refine TO.done ?_
      refine X.seq_normal ?_
      refine T.seq ?_
      rcases ite_some H with ⟨g30, H⟩ | ⟨g30, H⟩
      ·
        refine T.condPT rfl g30 ?_
        refine T.skip ?_
        refine X.seq_normal ?_
        refine T.seq ?_
        refine T.block ?_
        refine T.seq ?_
        refine T.regionL (ll := [0, 1]) rfl ?_
        refine TO.move rfl rfl rfl rfl ?_
        refine TO.assign rfl rfl rfl rfl ?_
        refine TO.done ?_
        refine X.seq_normal ?_
        obtain ⟨g31, H⟩ := gd_some H
        obtain ⟨g32, H⟩ := gd_some H
        obtain ⟨g33, H⟩ := gd_some H
        obtain ⟨g34, H⟩ := gd_some H
        obtain ⟨g35, H⟩ := gd_some H
        apply T.drawQT [(45, _), (46, _), (47, _), (48, _), (49, _), (50, _), (51, _), (52, _), (53, _)]
        · exact mixed
        · kernel_rfl
        · kernel_rfl
        · exact rfl
        · exact rfl
        · refine ⟨?_, ?_, ?_, ?_, ?_, ?_, ?_, ?_, ?_, trivial⟩
          · intro Es
            refine TO.move rfl rfl rfl rfl ?_
            exact TO.done (X.ob rfl (Pick.refl _))
          · intro Es
            refine TO.move rfl rfl rfl rfl ?_
            exact TO.done (X.ob rfl (Pick.refl _))
          · intro Es
            refine TO.addG g31 rfl rfl rfl rfl rfl ?_
            exact TO.done (X.ob rfl (Pick.refl _))
          · intro Es
            refine TO.ix1 hn28 g32 rfl rfl rfl rfl rfl TWBS4.l27 TWBS4.n3 ?_
            exact TO.done (X.ob rfl (Pick.refl _))
          · intro Es
            refine TO.ldIO g32 rfl rfl rfl rfl TWBS4.s3 mm0 ?_
            exact TO.done (X.ob rfl (Pick.refl _))
          · intro Es
            refine TO.move rfl rfl rfl rfl ?_
            exact TO.done (X.ob rfl (Pick.refl _))
          · intro Es
            refine TO.move rfl rfl rfl rfl ?_
            exact TO.done (X.ob rfl (Pick.refl _))
          · intro Es
            refine TO.ix1 hn28 g33 rfl rfl rfl rfl rfl TWBS4.l27 TWBS4.n3 ?_
            exact TO.done (X.ob rfl (Pick.refl _))
          · intro Es
            refine TO.ldIO g33 rfl rfl rfl rfl TWBS4.s3 mm0 ?_
            exact TO.done (X.ob rfl (Pick.refl _))
        refine TO.addG g34 rfl rfl rfl rfl rfl ?_
        refine TO.ix1 hn28 g35 rfl rfl rfl rfl rfl TWBS4.l27 TWBS4.n3 ?_
        refine TO.stIO g35 rfl rfl rfl rfl tk0 TWBS4.n3 ?_
        refine TO.done ?_
        refine X.block_normal ?_
        refine X.seq_normal ?_
        refine T.trim (AllF.cons (t := 3) rfl (AllF.cons (t := 41) rfl (AllF.cons (t := 42) rfl AllF.nil))) ?_
        obtain ⟨g36, H⟩ := gd_some H
        refine T.regionL (ll := [0, 1]) rfl ?_
        refine TO.addG g36 rfl rfl rfl rfl rfl ?_
        refine TO.move rfl rfl rfl rfl ?_
        refine TO.done ?_
        have H := loop_next H C_3
        exact X.againE3 n_3 (xs27.set (x29 + 1).toNat ((xs27.getD (x29 + 1).toNat 0) + (xs27.getD x29.toNat 0))) (x29 + 1) ⟨H, (List.length_set.trans hn28)⟩ (Nat.lt_succ_self _) (AllF.cons rfl (AllF.cons rfl (AllF.cons rfl AllF.nil))) (Pick.cons tk0 Pick.nil)
      ·
        refine T.condPF rfl g30 ?_
        refine T.exit ?_
        refine X.then_exit ?_
        have H := loop_exitE H C_3 ▸ K_3
        refine X.then_exit ?_
        refine X.block_here ?_
        exact X.metE1 xs27 ⟨H, hn28⟩ (AllF.cons rfl AllF.nil) (Pick.cons tk0 Pick.nil)
    · rintro xs37 ⟨H, hn38⟩
      unfold m_csr_counted_j4 at H
      refine T.seq ?_
      refine T.regionL (ll := [0, 1]) rfl ?_
      refine TO.move rfl rfl rfl rfl ?_
      refine TO.assign rfl rfl rfl rfl ?_
      refine TO.done ?_
      refine X.seq_normal ?_
      refine T.ret ?_
      obtain rfl := ret1 H
      exact X.ret1 rfl rfl rfl rfl (Res.tmp rfl) (Pick.cons tk0 Pick.nil) ⟨(some b5), ((n0.N + 1).toNat), ((n0.N + 1).toNat), ([]), rfl, rfl, hn38, (Nat.le_refl _), (zeroJ _ _), someZ⟩
/-- slices.Clone[[]int,int] -/
theorem w_slices_Clone_int {s0 : List Int} {s0_b : Option Addr} {s0_n : Nat} {s0_c : Nat} (w : World) (h_s0 : RS w [] (intC .i64) 1 s0_b s0_n s0_c s0) {r0 : List Int} (H : m_slices_Clone_int s0 = some r0) : Fnc Try.prog 65 #[.slice s0_b s0_n s0_c] w [] (fun v N => ∃ (ob_0 : Option Nat) (n_0 : Nat) (c_0 : Nat) (j_0 : List Value), v = .slice (sb ob_0) n_0 c_0 ∧ N = [(ob_0, .cells (arr (intC .i64) r0 j_0).toArray 3 (0, 0))] ∧ r0.length = n_0 ∧ n_0 ≤ c_0 ∧ j_0.length = (c_0 - n_0) * 1 ∧ (ob_0 = none → c_0 = 0)) := by
  unfold m_slices_Clone_int at H
  refine Fnc.enter (vs := [.slice s0_b s0_n s0_c]) Try.func65 rfl rfl (Inv.refl w) ?_
  refine T.seq ?_
  refine T.regionL (ll := [0]) rfl ?_
  refine TO.assign rfl rfl rfl rfl ?_
  refine TO.done ?_
  refine X.seq_normal ?_
  refine T.seq ?_
  refine T.seq ?_
  by_cases g1 : s0_b = none
  ·
    have hx : s0 = [] := List.eq_nil_of_length_eq_zero (by rw [h_s0.len, h_s0.ro.nil g1])
    have H : (some ([])) = some r0 := by
      simp only [hx] at H ⊢
      first | exact H | exact (gd_some H).2
    refine T.regionL (ll := [0, 1]) rfl ?_
    refine TO.move rfl rfl rfl rfl ?_
    refine TO.eqnil rfl rfl rfl rfl rfl TWBS4.l27 ?_
    refine TO.decB (t := 4) (b' := true) rfl (by rw [g1]; rfl) ?_
    refine TO.done ?_
    refine X.seq_normal ?_
    refine T.condT rfl rfl ?_
    refine T.seq ?_
    refine T.regionL (ll := [0]) rfl ?_
    refine TO.assign rfl rfl rfl rfl ?_
    refine TO.done ?_
    refine X.seq_normal ?_
    refine T.ret ?_
    refine X.then_ret ?_
    obtain rfl := ret1 H
    exact X.ret1 rfl rfl rfl rfl (Res.tmp rfl) (Pick.none Pick.nil) ⟨none, 0, 0, ([]), rfl, rfl, rfl, (Nat.le_refl _), (zeroJ 0 _), (fun _ => rfl)⟩
  ·
    refine T.regionL (ll := [0, 1]) rfl ?_
    refine TO.move rfl rfl rfl rfl ?_
    refine TO.eqnil rfl rfl rfl rfl rfl TWBS4.l27 ?_
    refine TO.decB (t := 4) (b' := false) rfl (Option.isNone_eq_false_iff.2 (Option.isSome_iff_ne_none.2 g1)) ?_
    refine TO.done ?_
    refine X.seq_normal ?_
    refine T.condF rfl rfl ?_
    refine T.skip ?_
    refine X.seq_normal ?_
    refine T.seq ?_
    obtain ⟨g4, H⟩ := gd_some H
    refine T.regionL (ll := [0, 1, 2, 3]) rfl ?_
    refine TO.buildNone rfl rfl rfl TWBS4.l27 TWBS4.n3 ?_; intro b2
    refine TO.move rfl rfl rfl rfl ?_
    refine TO.app (f := (intC .i64)) (s := 1) (xs := ([] : List Int)) (ob := some b2) (j := ([])) (ys := s0) (fun _ => rfl) (fun _ => rfl) TWBS4el27 g4 rfl rfl rfl rfl rfl tk0 rfl (Nat.le_refl _) (zeroJ 0 _) someZ (fun wc hwc => (h_s0.mono hwc)) ?_; intro ob5 c6 j7 hc8 hj9 hz10
    refine TO.assign rfl rfl rfl rfl ?_
    refine TO.done ?_
    refine X.seq_normal ?_
    refine T.ret ?_
    obtain rfl := ret1 H
    exact X.ret1 rfl rfl rfl rfl (Res.tmp rfl) (Pick.cons tk0 Pick.nil) ⟨ob5, (0 + s0_n), c6, j7, rfl, rfl, (lenApp0 h_s0.len), hc8, hj9, hz10⟩
/-- acequia/csr.Make$1 -/
theorem w_csr_Make_1 {from0 : Int} {to1 : Int} {most2 : Int} {arc3 : Int} {back4 : Bool} {c5 : List Int} {c6 : Csr} {c5_k : Nat} {c5_o : Option Nat} {c5_n : Nat} {c5_c : Nat} {c5_j : List Value} {c6_k : Nat} {c6f3_b : Option Addr} {c6f3_n : Nat} {c6f3_c : Nat} {c6f4_o : Option Nat} {c6f4_n : Nat} {c6f4_c : Nat} {c6f4_j : List Value} {c6f5_b : Option Addr} {c6f5_n : Nat} {c6f5_c : Nat} {c6f6_o : Option Nat} {c6f6_n : Nat} {c6f6_c : Nat} {c6f6_j : List Value} {c6f7_o : Option Nat} {c6f7_n : Nat} {c6f7_c : Nat} {c6f7_j : List Value} {c6f8_o : Option Nat} {c6f8_n : Nat} {c6f8_c : Nat} {c6f8_j : List Value} (w : World) (hin : Inv w (([(some c5_k, .cells #[.slice (sb c5_o) c5_n c5_c] 27 (0, 0)), (c5_o, .cells (arr (intC .i64) c5 c5_j).toArray 3 (0, 0)), (some c6_k, .cells #[.int .i64 c6.N, .int .i64 c6.S, .int .i64 c6.T, .slice c6f3_b c6f3_n c6f3_c, .slice (sb c6f4_o) c6f4_n c6f4_c, .slice c6f5_b c6f5_n c6f5_c, .slice (sb c6f6_o) c6f6_n c6f6_c, .slice (sb c6f7_o) c6f7_n c6f7_c, .slice (sb c6f8_o) c6f8_n c6f8_c] 32 (0, 0)), (c6f4_o, .cells (arr (intC .i64) c6.Head c6f4_j).toArray 3 (0, 0)), (c6f6_o, .cells (arr (intC .i64) c6.Cap c6f6_j).toArray 2 (0, 0)), (c6f7_o, .cells (arr (intC .i64) c6.Arc c6f7_j).toArray 3 (0, 0)), (c6f8_o, .cells (arr boolC c6.Back c6f8_j).toArray 4 (0, 0))] : Heap).filterMap (·.1)) w [(some c5_k, .cells #[.slice (sb c5_o) c5_n c5_c] 27 (0, 0)), (c5_o, .cells (arr (intC .i64) c5 c5_j).toArray 3 (0, 0)), (some c6_k, .cells #[.int .i64 c6.N, .int .i64 c6.S, .int .i64 c6.T, .slice c6f3_b c6f3_n c6f3_c, .slice (sb c6f4_o) c6f4_n c6f4_c, .slice c6f5_b c6f5_n c6f5_c, .slice (sb c6f6_o) c6f6_n c6f6_c, .slice (sb c6f7_o) c6f7_n c6f7_c, .slice (sb c6f8_o) c6f8_n c6f8_c] 32 (0, 0)), (c6f4_o, .cells (arr (intC .i64) c6.Head c6f4_j).toArray 3 (0, 0)), (c6f6_o, .cells (arr (intC .i64) c6.Cap c6f6_j).toArray 2 (0, 0)), (c6f7_o, .cells (arr (intC .i64) c6.Arc c6f7_j).toArray 3 (0, 0)), (c6f8_o, .cells (arr boolC c6.Back c6f8_j).toArray 4 (0, 0))]) (h_c5_l : c5.length = c5_n) (h_c5_c : c5_n ≤ c5_c) (h_c5_j : c5_j.length = (c5_c - c5_n) * 1) (h_c5_z : (c5_o = none → c5_c = 0)) (h_c6f3 : RS w (([(some c5_k, .cells #[.slice (sb c5_o) c5_n c5_c] 27 (0, 0)), (c5_o, .cells (arr (intC .i64) c5 c5_j).toArray 3 (0, 0)), (some c6_k, .cells #[.int .i64 c6.N, .int .i64 c6.S, .int .i64 c6.T, .slice c6f3_b c6f3_n c6f3_c, .slice (sb c6f4_o) c6f4_n c6f4_c, .slice c6f5_b c6f5_n c6f5_c, .slice (sb c6f6_o) c6f6_n c6f6_c, .slice (sb c6f7_o) c6f7_n c6f7_c, .slice (sb c6f8_o) c6f8_n c6f8_c] 32 (0, 0)), (c6f4_o, .cells (arr (intC .i64) c6.Head c6f4_j).toArray 3 (0, 0)), (c6f6_o, .cells (arr (intC .i64) c6.Cap c6f6_j).toArray 2 (0, 0)), (c6f7_o, .cells (arr (intC .i64) c6.Arc c6f7_j).toArray 3 (0, 0)), (c6f8_o, .cells (arr boolC c6.Back c6f8_j).toArray 4 (0, 0))] : Heap).filterMap (·.1)) (intC .i64) 1 c6f3_b c6f3_n c6f3_c c6.First) (h_c6f4_l : c6.Head.length = c6f4_n) (h_c6f4_c : c6f4_n ≤ c6f4_c) (h_c6f4_j : c6f4_j.length = (c6f4_c - c6f4_n) * 1) (h_c6f4_z : (c6f4_o = none → c6f4_c = 0)) (h_c6f5 : RS w (([(some c5_k, .cells #[.slice (sb c5_o) c5_n c5_c] 27 (0, 0)), (c5_o, .cells (arr (intC .i64) c5 c5_j).toArray 3 (0, 0)), (some c6_k, .cells #[.int .i64 c6.N, .int .i64 c6.S, .int .i64 c6.T, .slice c6f3_b c6f3_n c6f3_c, .slice (sb c6f4_o) c6f4_n c6f4_c, .slice c6f5_b c6f5_n c6f5_c, .slice (sb c6f6_o) c6f6_n c6f6_c, .slice (sb c6f7_o) c6f7_n c6f7_c, .slice (sb c6f8_o) c6f8_n c6f8_c] 32 (0, 0)), (c6f4_o, .cells (arr (intC .i64) c6.Head c6f4_j).toArray 3 (0, 0)), (c6f6_o, .cells (arr (intC .i64) c6.Cap c6f6_j).toArray 2 (0, 0)), (c6f7_o, .cells (arr (intC .i64) c6.Arc c6f7_j).toArray 3 (0, 0)), (c6f8_o, .cells (arr boolC c6.Back c6f8_j).toArray 4 (0, 0))] : Heap).filterMap (·.1)) (intC .i64) 1 c6f5_b c6f5_n c6f5_c c6.Rev) (h_c6f6_l : c6.Cap.length = c6f6_n) (h_c6f6_c : c6f6_n ≤ c6f6_c) (h_c6f6_j : c6f6_j.length = (c6f6_c - c6f6_n) * 1) (h_c6f6_z : (c6f6_o = none → c6f6_c = 0)) (h_c6f7_l : c6.Arc.length = c6f7_n) (h_c6f7_c : c6f7_n ≤ c6f7_c) (h_c6f7_j : c6f7_j.length = (c6f7_c - c6f7_n) * 1) (h_c6f7_z : (c6f7_o = none → c6f7_c = 0)) (h_c6f8_l : c6.Back.length = c6f8_n) (h_c6f8_c : c6f8_n ≤ c6f8_c) (h_c6f8_j : c6f8_j.length = (c6f8_c - c6f8_n) * 1) (h_c6f8_z : (c6f8_o = none → c6f8_c = 0)) {r0 : Int} {o0 : List Int} {o1 : Csr} (H : m_csr_Make_1 from0 to1 most2 arc3 back4 c5 c6 = some (r0, o0, o1)) : Fnc Try.prog 86 #[.int .i64 from0, .int .i64 to1, .int .i64 most2, .int .i64 arc3, .bool back4, .pointer (some ⟨c5_k, 0, none⟩), .pointer (some ⟨c6_k, 0, none⟩)] w (([(some c5_k, .cells #[.slice (sb c5_o) c5_n c5_c] 27 (0, 0)), (c5_o, .cells (arr (intC .i64) c5 c5_j).toArray 3 (0, 0)), (some c6_k, .cells #[.int .i64 c6.N, .int .i64 c6.S, .int .i64 c6.T, .slice c6f3_b c6f3_n c6f3_c, .slice (sb c6f4_o) c6f4_n c6f4_c, .slice c6f5_b c6f5_n c6f5_c, .slice (sb c6f6_o) c6f6_n c6f6_c, .slice (sb c6f7_o) c6f7_n c6f7_c, .slice (sb c6f8_o) c6f8_n c6f8_c] 32 (0, 0)), (c6f4_o, .cells (arr (intC .i64) c6.Head c6f4_j).toArray 3 (0, 0)), (c6f6_o, .cells (arr (intC .i64) c6.Cap c6f6_j).toArray 2 (0, 0)), (c6f7_o, .cells (arr (intC .i64) c6.Arc c6f7_j).toArray 3 (0, 0)), (c6f8_o, .cells (arr boolC c6.Back c6f8_j).toArray 4 (0, 0))] : Heap).filterMap (·.1)) (fun v N => v = .int .i64 r0 ∧ N = [(some c5_k, .cells #[.slice (sb c5_o) c5_n c5_c] 27 (0, 0)), (c5_o, .cells (arr (intC .i64) o0 c5_j).toArray 3 (0, 0)), (some c6_k, .cells #[.int .i64 c6.N, .int .i64 c6.S, .int .i64 c6.T, .slice c6f3_b c6f3_n c6f3_c, .slice (sb c6f4_o) c6f4_n c6f4_c, .slice c6f5_b c6f5_n c6f5_c, .slice (sb c6f6_o) c6f6_n c6f6_c, .slice (sb c6f7_o) c6f7_n c6f7_c, .slice (sb c6f8_o) c6f8_n c6f8_c] 32 (0, 0)), (c6f4_o, .cells (arr (intC .i64) o1.Head c6f4_j).toArray 3 (0, 0)), (c6f6_o, .cells (arr (intC .i64) o1.Cap c6f6_j).toArray 2 (0, 0)), (c6f7_o, .cells (arr (intC .i64) o1.Arc c6f7_j).toArray 3 (0, 0)), (c6f8_o, .cells (arr boolC o1.Back c6f8_j).toArray 4 (0, 0))] ∧ o0.length = c5_n ∧ o1.Head.length = c6f4_n ∧ o1.Cap.length = c6f6_n ∧ o1.Arc.length = c6f7_n ∧ o1.Back.length = c6f8_n) := by
  unfold m_csr_Make_1 at H
  refine Fnc.enter (vs := [.int .i64 from0, .int .i64 to1, .int .i64 most2, .int .i64 arc3, .bool back4, .pointer (some ⟨c5_k, 0, none⟩), .pointer (some ⟨c6_k, 0, none⟩)]) Try.func86 rfl rfl hin ?_
  refine T.seq ?_
  refine T.regionL (ll := [0]) rfl ?_
  refine TO.assign rfl rfl rfl rfl ?_
  refine TO.done ?_
  refine X.seq_normal ?_
  refine T.seq ?_
  obtain ⟨g8, H⟩ := gd_some H
  refine T.regionL (ll := [0, 1, 2, 3, 4]) rfl ?_
  refine TO.load1 rfl rfl rfl rfl TWBS4.s27 mm0 rfl ?_
  refine TO.move rfl rfl rfl rfl ?_
  refine TO.ixV h_c5_z h_c5_c h_c5_l g8 rfl rfl rfl rfl rfl TWBS4.l27 TWBS4.n3 ?_
  refine TO.ldIV h_c5_z h_c5_c h_c5_l g8 rfl rfl rfl rfl TWBS4.s3 mm1 ?_
  refine TO.assign rfl rfl rfl rfl ?_
  refine TO.done ?_
  refine X.seq_normal ?_
  refine T.seq ?_
  obtain ⟨g9, H⟩ := gd_some H
  obtain ⟨g10, H⟩ := gd_some H
  obtain ⟨g11, H⟩ := gd_some H
  refine T.regionL (ll := [0, 1, 2, 3, 4, 5, 6]) rfl ?_
  refine TO.load1 rfl rfl rfl rfl TWBS4.s27 mm0 rfl ?_
  refine TO.move rfl rfl rfl rfl ?_
  refine TO.ixV h_c5_z h_c5_c h_c5_l g9 rfl rfl rfl rfl rfl TWBS4.l27 TWBS4.n3 ?_
  refine TO.ldIV h_c5_z h_c5_c h_c5_l g9 rfl rfl rfl rfl TWBS4.s3 mm1 ?_
  refine TO.addG g10 rfl rfl rfl rfl rfl ?_
  refine TO.ixV h_c5_z h_c5_c h_c5_l g11 rfl rfl rfl rfl rfl TWBS4.l27 TWBS4.n3 ?_
  refine TO.stIV h_c5_z h_c5_c h_c5_l g11 rfl rfl rfl rfl tk1 TWBS4.n3 ?_
  refine TO.done ?_
  refine X.seq_normal ?_
  refine T.trim (AllF.cons (t := 1) rfl (AllF.cons (t := 2) rfl (AllF.cons (t := 3) rfl (AllF.cons (t := 4) rfl (AllF.cons (t := 6) rfl (AllF.cons (t := 13) rfl AllF.nil)))))) ?_
  refine T.seq ?_
  obtain ⟨g12, H⟩ := gd_some H
  obtain ⟨g13, H⟩ := gd_some H
  obtain ⟨g14, H⟩ := gd_some H
  obtain ⟨g15, H⟩ := gd_some H
  apply T.drawL [⟨[], false, [], relV _⟩, ⟨[0], false, [], relV _⟩, ⟨[], false, [], relV _⟩, ⟨[], false, [], relV _⟩, ⟨[3], false, [], relV _⟩, ⟨[], false, [], relV _⟩, ⟨[], false, [], relV _⟩, ⟨[6], false, [], relV _⟩, ⟨[], false, [], relV _⟩, ⟨[], false, [], relV _⟩, ⟨[9], false, [], relV _⟩, ⟨[], false, [], relV _⟩, ⟨[], false, [], relV _⟩, ⟨[], false, [], relV _⟩, ⟨[], false, [], relV _⟩, ⟨[], false, [], relV _⟩, ⟨[1, 2], false, [], relV _⟩, ⟨[1, 2, 12, 16], true, [], relN⟩, ⟨[4, 5], false, [], relV _⟩, ⟨[4, 5, 13, 18], true, [], relN⟩, ⟨[7, 8], false, [], relV _⟩, ⟨[7, 8, 14, 20], true, [], relN⟩] [24, 25, 26, 27, 28, 29, 30, 31, 32, 33, 34, 35, 36, 37, 38, 39, 40, 41, 42] 22 (HRk [[(c6f4_o, .cells (arr (intC .i64) c6.Head c6f4_j).toArray 3 (0, 0)), (c6f6_o, .cells (arr (intC .i64) c6.Cap c6f6_j).toArray 2 (0, 0)), (c6f7_o, .cells (arr (intC .i64) c6.Arc c6f7_j).toArray 3 (0, 0))], [(c6f4_o, .cells (arr (intC .i64) (c6.Head.set (c5.getD from0.toNat 0).toNat to1) c6f4_j).toArray 3 (0, 0)), (c6f6_o, .cells (arr (intC .i64) c6.Cap c6f6_j).toArray 2 (0, 0)), (c6f7_o, .cells (arr (intC .i64) c6.Arc c6f7_j).toArray 3 (0, 0))], [(c6f4_o, .cells (arr (intC .i64) (c6.Head.set (c5.getD from0.toNat 0).toNat to1) c6f4_j).toArray 3 (0, 0)), (c6f6_o, .cells (arr (intC .i64) (c6.Cap.set (c5.getD from0.toNat 0).toNat most2) c6f6_j).toArray 2 (0, 0)), (c6f7_o, .cells (arr (intC .i64) c6.Arc c6f7_j).toArray 3 (0, 0))], [(c6f4_o, .cells (arr (intC .i64) (c6.Head.set (c5.getD from0.toNat 0).toNat to1) c6f4_j).toArray 3 (0, 0)), (c6f6_o, .cells (arr (intC .i64) (c6.Cap.set (c5.getD from0.toNat 0).toNat most2) c6f6_j).toArray 2 (0, 0)), (c6f7_o, .cells (arr (intC .i64) (c6.Arc.set (c5.getD from0.toNat 0).toNat arc3) c6f7_j).toArray 3 (0, 0))]]) [[], [], [], []] [(c6f4_o, .cells (arr (intC .i64) c6.Head c6f4_j).toArray 3 (0, 0)), (c6f6_o, .cells (arr (intC .i64) c6.Cap c6f6_j).toArray 2 (0, 0)), (c6f7_o, .cells (arr (intC .i64) c6.Arc c6f7_j).toArray 3 (0, 0))] [(c5_o, .cells (arr (intC .i64) (c5.set from0.toNat ((c5.getD from0.toNat 0) + 1)) c5_j).toArray 3 (0, 0)), (some c5_k, .cells #[.slice (sb c5_o) c5_n c5_c] 27 (0, 0)), (some c6_k, .cells #[.int .i64 c6.N, .int .i64 c6.S, .int .i64 c6.T, .slice c6f3_b c6f3_n c6f3_c, .slice (sb c6f4_o) c6f4_n c6f4_c, .slice c6f5_b c6f5_n c6f5_c, .slice (sb c6f6_o) c6f6_n c6f6_c, .slice (sb c6f7_o) c6f7_n c6f7_c, .slice (sb c6f8_o) c6f8_n c6f8_c] 32 (0, 0)), (c6f8_o, .cells (arr boolC c6.Back c6f8_j).toArray 4 (0, 0))]
  · exact mixed
  · exact rfl
  · kernel_rfl
  · kernel_rfl
  · kernel_rfl
  · exact rfl
  · exact rfl
  · exact rfl
  · exact rfl
  · exact (by repeat (first | exact Pick.refl _ | exact Pick.nil | apply Pick.none | refine Pick.cons (by repeat (first | exact Take.head _ _ | apply Take.tail)) ?_))
  · refine ⟨?_, ?_, ?_, ?_, ?_, ?_, ?_, ?_, ?_, ?_, ?_, ?_, ?_, ?_, ?_, ?_, ?_, ?_, ?_, ?_, ?_, ?_, trivial⟩
    · rintro vs es Es Hx -
      refine TO.reenv (D := []) rfl ?_
      refine TO.fieldAddr0 rfl rfl rfl rfl TWBS4.f32_4 ?_
      refine TO.done ?_; exact X.obQ rfl ⟨rfl, rfl⟩ (Pick.refl _) rfl
    · rintro vs es Es Hx ⟨⟨h_0, e_0⟩, -⟩
      refine TO.reenv (D := [(24, vs 0)]) rfl ?_; rw [h_0]
      refine TO.load1 rfl rfl rfl rfl TWBS4.s27 mm2 rfl ?_
      refine TO.done ?_; exact X.obQ rfl ⟨rfl, rfl⟩ (Pick.refl _) (by show [(24, vs 0)] = _; rw [h_0])
    · rintro vs es Es Hx -
      refine TO.reenv (D := []) rfl ?_
      refine TO.move rfl rfl rfl rfl ?_
      refine TO.done ?_; exact X.obQ rfl ⟨rfl, rfl⟩ (Pick.refl _) rfl
    · rintro vs es Es Hx -
      refine TO.reenv (D := []) rfl ?_
      refine TO.fieldAddr0 rfl rfl rfl rfl TWBS4.f32_6 ?_
      refine TO.done ?_; exact X.obQ rfl ⟨rfl, rfl⟩ (Pick.refl _) rfl
    · rintro vs es Es Hx ⟨⟨h_3, e_3⟩, -⟩
      refine TO.reenv (D := [(27, vs 3)]) rfl ?_; rw [h_3]
      refine TO.load1 rfl rfl rfl rfl TWBS4.s26 mm2 rfl ?_
      refine TO.done ?_; exact X.obQ rfl ⟨rfl, rfl⟩ (Pick.refl _) (by show [(27, vs 3)] = _; rw [h_3])
    · rintro vs es Es Hx -
      refine TO.reenv (D := []) rfl ?_
      refine TO.move rfl rfl rfl rfl ?_
      refine TO.done ?_; exact X.obQ rfl ⟨rfl, rfl⟩ (Pick.refl _) rfl
    · rintro vs es Es Hx -
      refine TO.reenv (D := []) rfl ?_
      refine TO.fieldAddr0 rfl rfl rfl rfl TWBS4.f32_7 ?_
      refine TO.done ?_; exact X.obQ rfl ⟨rfl, rfl⟩ (Pick.refl _) rfl
    · rintro vs es Es Hx ⟨⟨h_6, e_6⟩, -⟩
      refine TO.reenv (D := [(30, vs 6)]) rfl ?_; rw [h_6]
      refine TO.load1 rfl rfl rfl rfl TWBS4.s27 mm2 rfl ?_
      refine TO.done ?_; exact X.obQ rfl ⟨rfl, rfl⟩ (Pick.refl _) (by show [(30, vs 6)] = _; rw [h_6])
    · rintro vs es Es Hx -
      refine TO.reenv (D := []) rfl ?_
      refine TO.move rfl rfl rfl rfl ?_
      refine TO.done ?_; exact X.obQ rfl ⟨rfl, rfl⟩ (Pick.refl _) rfl
    · rintro vs es Es Hx -
      refine TO.reenv (D := []) rfl ?_
      refine TO.fieldAddr0 rfl rfl rfl rfl TWBS4.f32_8 ?_
      refine TO.done ?_; exact X.obQ rfl ⟨rfl, rfl⟩ (Pick.refl _) rfl
    · rintro vs es Es Hx ⟨⟨h_9, e_9⟩, -⟩
      refine TO.reenv (D := [(33, vs 9)]) rfl ?_; rw [h_9]
      refine TO.load1 rfl rfl rfl rfl TWBS4.s30 mm2 rfl ?_
      refine TO.done ?_; exact X.obQ rfl ⟨rfl, rfl⟩ (Pick.refl _) (by show [(33, vs 9)] = _; rw [h_9])
    · rintro vs es Es Hx -
      refine TO.reenv (D := []) rfl ?_
      refine TO.move rfl rfl rfl rfl ?_
      refine TO.done ?_; exact X.obQ rfl ⟨rfl, rfl⟩ (Pick.refl _) rfl
    · rintro vs es Es Hx -
      refine TO.reenv (D := []) rfl ?_
      refine TO.move rfl rfl rfl rfl ?_
      refine TO.done ?_; exact X.obQ rfl ⟨rfl, rfl⟩ (Pick.refl _) rfl
    · rintro vs es Es Hx -
      refine TO.reenv (D := []) rfl ?_
      refine TO.move rfl rfl rfl rfl ?_
      refine TO.done ?_; exact X.obQ rfl ⟨rfl, rfl⟩ (Pick.refl _) rfl
    · rintro vs es Es Hx -
      refine TO.reenv (D := []) rfl ?_
      refine TO.move rfl rfl rfl rfl ?_
      refine TO.done ?_; exact X.obQ rfl ⟨rfl, rfl⟩ (Pick.refl _) rfl
    · rintro vs es Es Hx -
      refine TO.reenv (D := []) rfl ?_
      refine TO.move rfl rfl rfl rfl ?_
      refine TO.done ?_; exact X.obQ rfl ⟨rfl, rfl⟩ (Pick.refl _) rfl
    · rintro vs es Es Hx ⟨⟨h_1, e_1⟩, ⟨h_2, e_2⟩, -⟩
      refine TO.reenv (D := [(25, vs 1), (26, vs 2)]) rfl ?_; rw [h_1, h_2]
      refine TO.ixV h_c6f4_z h_c6f4_c h_c6f4_l g12 rfl rfl rfl rfl rfl TWBS4.l27 TWBS4.n3 ?_
      refine TO.done ?_; exact X.obQ rfl ⟨rfl, rfl⟩ (Pick.refl _) (by show [(25, vs 1), (26, vs 2)] = _; rw [h_1, h_2])
    · rintro vs es Es Hx hb ⟨⟨h_1, e_1⟩, ⟨h_2, e_2⟩, ⟨h_12, e_12⟩, ⟨h_16, e_16⟩, -⟩ hHR
      obtain rfl : hb = [(c6f4_o, .cells (arr (intC .i64) c6.Head c6f4_j).toArray 3 (0, 0)), (c6f6_o, .cells (arr (intC .i64) c6.Cap c6f6_j).toArray 2 (0, 0)), (c6f7_o, .cells (arr (intC .i64) c6.Arc c6f7_j).toArray 3 (0, 0))] := hHR
      refine TO.reenv (D := [(25, vs 1), (26, vs 2), (36, vs 12), (40, vs 16)]) rfl ?_; rw [h_1, h_2, h_12, h_16]
      refine TO.stIV h_c6f4_z h_c6f4_c h_c6f4_l g12 rfl rfl rfl rfl tk0 TWBS4.n3 ?_
      refine TO.done ?_; exact X.obE (hb' := [(c6f4_o, .cells (arr (intC .i64) (c6.Head.set (c5.getD from0.toNat 0).toNat to1) c6f4_j).toArray 3 (0, 0)), (c6f6_o, .cells (arr (intC .i64) c6.Cap c6f6_j).toArray 2 (0, 0)), (c6f7_o, .cells (arr (intC .i64) c6.Arc c6f7_j).toArray 3 (0, 0))]) rfl rfl rfl (by repeat (first | exact Pick.refl _ | exact Pick.nil | apply Pick.none | refine Pick.cons (by repeat (first | exact Take.head _ _ | apply Take.tail)) ?_)) (by show [(25, vs 1), (26, vs 2), (36, vs 12), (40, vs 16)] = _; rw [h_1, h_2, h_12, h_16])
    · rintro vs es Es Hx ⟨⟨h_4, e_4⟩, ⟨h_5, e_5⟩, -⟩
      refine TO.reenv (D := [(28, vs 4), (29, vs 5)]) rfl ?_; rw [h_4, h_5]
      refine TO.ixV h_c6f6_z h_c6f6_c h_c6f6_l g13 rfl rfl rfl rfl rfl TWBS4.l26 TWBS4.n2 ?_
      refine TO.done ?_; exact X.obQ rfl ⟨rfl, rfl⟩ (Pick.refl _) (by show [(28, vs 4), (29, vs 5)] = _; rw [h_4, h_5])
    · rintro vs es Es Hx hb ⟨⟨h_4, e_4⟩, ⟨h_5, e_5⟩, ⟨h_13, e_13⟩, ⟨h_18, e_18⟩, -⟩ hHR
      obtain rfl : hb = [(c6f4_o, .cells (arr (intC .i64) (c6.Head.set (c5.getD from0.toNat 0).toNat to1) c6f4_j).toArray 3 (0, 0)), (c6f6_o, .cells (arr (intC .i64) c6.Cap c6f6_j).toArray 2 (0, 0)), (c6f7_o, .cells (arr (intC .i64) c6.Arc c6f7_j).toArray 3 (0, 0))] := hHR
      refine TO.reenv (D := [(28, vs 4), (29, vs 5), (37, vs 13), (41, vs 18)]) rfl ?_; rw [h_4, h_5, h_13, h_18]
      refine TO.stIV h_c6f6_z h_c6f6_c h_c6f6_l g13 rfl rfl rfl rfl tk1 TWBS4.n2 ?_
      refine TO.done ?_; exact X.obE (hb' := [(c6f4_o, .cells (arr (intC .i64) (c6.Head.set (c5.getD from0.toNat 0).toNat to1) c6f4_j).toArray 3 (0, 0)), (c6f6_o, .cells (arr (intC .i64) (c6.Cap.set (c5.getD from0.toNat 0).toNat most2) c6f6_j).toArray 2 (0, 0)), (c6f7_o, .cells (arr (intC .i64) c6.Arc c6f7_j).toArray 3 (0, 0))]) rfl rfl rfl (by repeat (first | exact Pick.refl _ | exact Pick.nil | apply Pick.none | refine Pick.cons (by repeat (first | exact Take.head _ _ | apply Take.tail)) ?_)) (by show [(28, vs 4), (29, vs 5), (37, vs 13), (41, vs 18)] = _; rw [h_4, h_5, h_13, h_18])
    · rintro vs es Es Hx ⟨⟨h_7, e_7⟩, ⟨h_8, e_8⟩, -⟩
      refine TO.reenv (D := [(31, vs 7), (32, vs 8)]) rfl ?_; rw [h_7, h_8]
      refine TO.ixV h_c6f7_z h_c6f7_c h_c6f7_l g14 rfl rfl rfl rfl rfl TWBS4.l27 TWBS4.n3 ?_
      refine TO.done ?_; exact X.obQ rfl ⟨rfl, rfl⟩ (Pick.refl _) (by show [(31, vs 7), (32, vs 8)] = _; rw [h_7, h_8])
    · rintro vs es Es Hx hb ⟨⟨h_7, e_7⟩, ⟨h_8, e_8⟩, ⟨h_14, e_14⟩, ⟨h_20, e_20⟩, -⟩ hHR
      obtain rfl : hb = [(c6f4_o, .cells (arr (intC .i64) (c6.Head.set (c5.getD from0.toNat 0).toNat to1) c6f4_j).toArray 3 (0, 0)), (c6f6_o, .cells (arr (intC .i64) (c6.Cap.set (c5.getD from0.toNat 0).toNat most2) c6f6_j).toArray 2 (0, 0)), (c6f7_o, .cells (arr (intC .i64) c6.Arc c6f7_j).toArray 3 (0, 0))] := hHR
      refine TO.reenv (D := [(31, vs 7), (32, vs 8), (38, vs 14), (42, vs 20)]) rfl ?_; rw [h_7, h_8, h_14, h_20]
      refine TO.stIV h_c6f7_z h_c6f7_c h_c6f7_l g14 rfl rfl rfl rfl tk2 TWBS4.n3 ?_
      refine TO.done ?_; exact X.obE (hb' := [(c6f4_o, .cells (arr (intC .i64) (c6.Head.set (c5.getD from0.toNat 0).toNat to1) c6f4_j).toArray 3 (0, 0)), (c6f6_o, .cells (arr (intC .i64) (c6.Cap.set (c5.getD from0.toNat 0).toNat most2) c6f6_j).toArray 2 (0, 0)), (c6f7_o, .cells (arr (intC .i64) (c6.Arc.set (c5.getD from0.toNat 0).toNat arc3) c6f7_j).toArray 3 (0, 0))]) rfl rfl rfl (by repeat (first | exact Pick.refl _ | exact Pick.nil | apply Pick.none | refine Pick.cons (by repeat (first | exact Take.head _ _ | apply Take.tail)) ?_)) (by show [(31, vs 7), (32, vs 8), (38, vs 14), (42, vs 20)] = _; rw [h_7, h_8, h_14, h_20])
  · rintro vs es hb ⟨⟨h_0, e_0⟩, ⟨h_1, e_1⟩, ⟨h_2, e_2⟩, ⟨h_3, e_3⟩, ⟨h_4, e_4⟩, ⟨h_5, e_5⟩, ⟨h_6, e_6⟩, ⟨h_7, e_7⟩, ⟨h_8, e_8⟩, ⟨h_9, e_9⟩, ⟨h_10, e_10⟩, ⟨h_11, e_11⟩, ⟨h_12, e_12⟩, ⟨h_13, e_13⟩, ⟨h_14, e_14⟩, ⟨h_15, e_15⟩, ⟨h_16, e_16⟩, e_17, ⟨h_18, e_18⟩, e_19, ⟨h_20, e_20⟩, e_21, -⟩ hHR
    obtain rfl : hb = [(c6f4_o, .cells (arr (intC .i64) (c6.Head.set (c5.getD from0.toNat 0).toNat to1) c6f4_j).toArray 3 (0, 0)), (c6f6_o, .cells (arr (intC .i64) (c6.Cap.set (c5.getD from0.toNat 0).toNat most2) c6f6_j).toArray 2 (0, 0)), (c6f7_o, .cells (arr (intC .i64) (c6.Arc.set (c5.getD from0.toNat 0).toNat arc3) c6f7_j).toArray 3 (0, 0))] := hHR
    refine TO.reenv (D := [(24, vs 0), (25, vs 1), (26, vs 2), (27, vs 3), (28, vs 4), (29, vs 5), (30, vs 6), (31, vs 7), (32, vs 8), (33, vs 9), (34, vs 10), (35, vs 11), (36, vs 12), (37, vs 13), (38, vs 14), (39, vs 15), (40, vs 16), (41, vs 18), (42, vs 20)]) rfl ?_
    refine TO.reheap (H := [(c6f4_o, .cells (arr (intC .i64) (c6.Head.set (c5.getD from0.toNat 0).toNat to1) c6f4_j).toArray 3 (0, 0)), (c6f6_o, .cells (arr (intC .i64) (c6.Cap.set (c5.getD from0.toNat 0).toNat most2) c6f6_j).toArray 2 (0, 0)), (c6f7_o, .cells (arr (intC .i64) (c6.Arc.set (c5.getD from0.toNat 0).toNat arc3) c6f7_j).toArray 3 (0, 0)), (c5_o, .cells (arr (intC .i64) (c5.set from0.toNat ((c5.getD from0.toNat 0) + 1)) c5_j).toArray 3 (0, 0)), (some c5_k, .cells #[.slice (sb c5_o) c5_n c5_c] 27 (0, 0)), (some c6_k, .cells #[.int .i64 c6.N, .int .i64 c6.S, .int .i64 c6.T, .slice c6f3_b c6f3_n c6f3_c, .slice (sb c6f4_o) c6f4_n c6f4_c, .slice c6f5_b c6f5_n c6f5_c, .slice (sb c6f6_o) c6f6_n c6f6_c, .slice (sb c6f7_o) c6f7_n c6f7_c, .slice (sb c6f8_o) c6f8_n c6f8_c] 32 (0, 0)), (c6f8_o, .cells (arr boolC c6.Back c6f8_j).toArray 4 (0, 0))]) (by show _ ++ (_ ++ (es 0 ++ (es 1 ++ (es 2 ++ (es 3 ++ (es 4 ++ (es 5 ++ (es 6 ++ (es 7 ++ (es 8 ++ (es 9 ++ (es 10 ++ (es 11 ++ (es 12 ++ (es 13 ++ (es 14 ++ (es 15 ++ (es 16 ++ (es 17 ++ (es 18 ++ (es 19 ++ (es 20 ++ (es 21 ++ ([])))))))))))))))))))))))) = _; rw [e_0, e_1, e_2, e_3, e_4, e_5, e_6, e_7, e_8, e_9, e_10, e_11, e_12, e_13, e_14, e_15, e_16, e_17, e_18, e_19, e_20, e_21]; rfl) ?_
    rw [h_0, h_1, h_2, h_3, h_4, h_5, h_6, h_7, h_8, h_9, h_10, h_11, h_12, h_13, h_14, h_15, h_16, h_18, h_20]
    clear h_20 h_18 h_16 h_15 h_14 h_13 h_12 h_11 h_10 h_9 h_8 h_7 h_6 h_5 h_4 h_3 h_2 h_1 h_0 e_0 e_1 e_2 e_3 e_4 e_5 e_6 e_7 e_8 e_9 e_10 e_11 e_12 e_13 e_14 e_15 e_16 e_17 e_18 e_19 e_20 e_21
    refine TO.ixV h_c6f8_z h_c6f8_c h_c6f8_l g15 rfl rfl rfl rfl rfl TWBS4.l30 TWBS4.n4 ?_
    refine TO.stBV h_c6f8_z h_c6f8_c h_c6f8_l g15 rfl rfl rfl rfl tk6 TWBS4.n4 ?_
    refine TO.done ?_
    refine X.seq_normal ?_
    refine T.trim (AllF.cons (t := 13) rfl AllF.nil) ?_
    refine T.seq ?_
    refine T.regionL (ll := [0, 1]) rfl ?_
    refine TO.move rfl rfl rfl rfl ?_
    refine TO.assign rfl rfl rfl rfl ?_
    refine TO.done ?_
    refine X.seq_normal ?_
    refine T.ret ?_
    obtain ⟨rfl, rfl, rfl⟩ := ret3 H
    exact X.ret1 rfl rfl rfl rfl (Res.tmp rfl) (Pick.cons tk5 (Pick.cons tk4 (Pick.cons tk4 (Pick.cons tk1 (Pick.cons tk1 (Pick.cons tk1 (Pick.cons tk0 Pick.nil))))))) ⟨rfl, rfl, (List.length_set.trans h_c5_l), (List.length_set.trans h_c6f4_l), (List.length_set.trans h_c6f6_l), (List.length_set.trans h_c6f7_l), (List.length_set.trans h_c6f8_l)⟩
/-- acequia/csr.Make -/
theorem w_csr_Make {n0 : Net} {n0f3_b : Option Addr} {n0f3_n : Nat} {n0f3_c : Nat} (w : World) (h_n0f3 : RS w [] arcC 3 n0f3_b n0f3_n n0f3_c n0.Arcs) {r0 : Csr} {r1 : Int} (H : m_csr_Make n0 = some (r0, r1)) : Fnc Try.prog 51 #[.agg #[.int .i64 n0.N, .int .i64 n0.S, .int .i64 n0.T, .slice n0f3_b n0f3_n n0f3_c]] w [] (fun v N => ∃ (ob_0 : Option Nat) (n_0 : Nat) (c_0 : Nat) (j_0 : List Value) (ob_4 : Option Nat) (n_4 : Nat) (c_4 : Nat) (j_4 : List Value) (ob_8 : Option Nat) (n_8 : Nat) (c_8 : Nat) (j_8 : List Value) (ob_12 : Option Nat) (n_12 : Nat) (c_12 : Nat) (j_12 : List Value) (ob_16 : Option Nat) (n_16 : Nat) (c_16 : Nat) (j_16 : List Value) (ob_20 : Option Nat) (n_20 : Nat) (c_20 : Nat) (j_20 : List Value), v = .tuple #[.agg #[.int .i64 r0.N, .int .i64 r0.S, .int .i64 r0.T, .slice (sb ob_0) n_0 c_0, .slice (sb ob_4) n_4 c_4, .slice (sb ob_8) n_8 c_8, .slice (sb ob_12) n_12 c_12, .slice (sb ob_16) n_16 c_16, .slice (sb ob_20) n_20 c_20], .int .i64 r1] ∧ N = [(ob_0, .cells (arr (intC .i64) r0.First j_0).toArray 3 (0, 0)), (ob_4, .cells (arr (intC .i64) r0.Head j_4).toArray 3 (0, 0)), (ob_8, .cells (arr (intC .i64) r0.Rev j_8).toArray 3 (0, 0)), (ob_12, .cells (arr (intC .i64) r0.Cap j_12).toArray 2 (0, 0)), (ob_16, .cells (arr (intC .i64) r0.Arc j_16).toArray 3 (0, 0)), (ob_20, .cells (arr boolC r0.Back j_20).toArray 4 (0, 0))] ∧ r0.First.length = n_0 ∧ n_0 ≤ c_0 ∧ j_0.length = (c_0 - n_0) * 1 ∧ (ob_0 = none → c_0 = 0) ∧ r0.Head.length = n_4 ∧ n_4 ≤ c_4 ∧ j_4.length = (c_4 - n_4) * 1 ∧ (ob_4 = none → c_4 = 0) ∧ r0.Rev.length = n_8 ∧ n_8 ≤ c_8 ∧ j_8.length = (c_8 - n_8) * 1 ∧ (ob_8 = none → c_8 = 0) ∧ r0.Cap.length = n_12 ∧ n_12 ≤ c_12 ∧ j_12.length = (c_12 - n_12) * 1 ∧ (ob_12 = none → c_12 = 0) ∧ r0.Arc.length = n_16 ∧ n_16 ≤ c_16 ∧ j_16.length = (c_16 - n_16) * 1 ∧ (ob_16 = none → c_16 = 0) ∧ r0.Back.length = n_20 ∧ n_20 ≤ c_20 ∧ j_20.length = (c_20 - n_20) * 1 ∧ (ob_20 = none → c_20 = 0)) := by
  unfold m_csr_Make at H
  refine Fnc.enter (vs := [.agg #[.int .i64 n0.N, .int .i64 n0.S, .int .i64 n0.T, .slice n0f3_b n0f3_n n0f3_c]]) Try.func51 rfl rfl (Inv.refl w) ?_
  refine T.seq ?_
  refine T.regionL (ll := [0, 1, 2]) rfl ?_
  refine TO.boxA rfl rfl rfl rfl ?_; intro b1
  refine TO.allocA rfl rfl rfl TWBS4.z32 ?_; intro b3
  refine TO.assign rfl rfl rfl rfl ?_
  refine TO.done ?_
  refine X.seq_normal ?_
  refine T.seq ?_
  refine T.seq ?_
  obtain ⟨r5, e6, H⟩ := bd_some H
  refine T.regionL (ll := [0, 1, 2]) rfl ?_
  refine TO.loadA rfl rfl rfl rfl TWBS4.a24 mm1 rfl ?_
  refine TO.callX TWBS4.c79 rfl rfl rfl rfl (fun wc hwc => w_net_Check (n0 := n0) wc (h_n0f3.mono hwc) e6) ?_
  rintro _ _ ⟨rfl, rfl⟩
  refine TO.assign rfl rfl rfl rfl ?_
  refine TO.done ?_
  refine X.seq_normal ?_
  refine T.seq ?_
  refine T.regionL (ll := [0, 1]) rfl ?_
  refine TO.move rfl rfl rfl rfl ?_
  refine TO.bin rfl rfl rfl rfl rfl rfl ?_
  refine TO.done ?_
  refine X.seq_normal ?_
  rcases ite_some H with ⟨g7, H⟩ | ⟨g7, H⟩
  ·
    refine T.condPT rfl g7 ?_
    refine T.seq ?_
    refine T.regionL (ll := [0, 1, 2, 3]) rfl ?_
    refine TO.buildS (t := 32) [.int .i64 0, .int .i64 0, .int .i64 0, .slice none 0 0, .slice none 0 0, .slice none 0 0, .slice none 0 0, .slice none 0 0, .slice none 0 0] [0, 1, 2, 3, 4, 5, 6, 7, 8] rfl rfl rfl rfl (by simp only [setAll, setCells, Value.cells, List.toList_toArray, List.getD_cons_zero, List.getD_cons_succ, List.set_cons_zero, List.set_cons_succ]; rfl) (by kernel_rfl) ?_
    refine TO.move rfl rfl rfl rfl ?_
    refine TO.storeA rfl rfl rfl rfl tk0 TWBS4.n32 rfl rfl rfl ?_
    refine TO.assign rfl rfl rfl rfl ?_
    refine TO.done ?_
    refine X.seq_normal ?_
    refine T.trim (AllF.cons (t := 2) rfl (AllF.cons (t := 3) rfl AllF.nil)) ?_
    refine T.ret ?_
    refine X.then_ret ?_
    obtain ⟨rfl, rfl⟩ := ret2 H
    exact X.ret2 rfl rfl rfl rfl (Res.cellA rfl TWBS4.a32 mm0 rfl) (Res.tmp rfl) (Pick.none (Pick.none (Pick.none (Pick.none (Pick.none (Pick.none Pick.nil)))))) ⟨none, 0, 0, ([]), none, 0, 0, ([]), none, 0, 0, ([]), none, 0, 0, ([]), none, 0, 0, ([]), none, 0, 0, ([]), rfl, rfl, rfl, (Nat.le_refl _), (zeroJ 0 _), (fun _ => rfl), rfl, (Nat.le_refl _), (zeroJ 0 _), (fun _ => rfl), rfl, (Nat.le_refl _), (zeroJ 0 _), (fun _ => rfl), rfl, (Nat.le_refl _), (zeroJ 0 _), (fun _ => rfl), rfl, (Nat.le_refl _), (zeroJ 0 _), (fun _ => rfl), rfl, (Nat.le_refl _), (zeroJ 0 _), (fun _ => rfl)⟩
  ·
    refine T.condPF rfl g7 ?_
    refine T.skip ?_
    refine X.seq_normal ?_
    refine T.seq ?_
    obtain ⟨r8, e9, H⟩ := bd_some H
    apply T.drawL [⟨[], false, [], relV _⟩, ⟨[0], false, [], relV _⟩, ⟨[], false, [], relV _⟩, ⟨[2], false, [], relV _⟩, ⟨[], false, [], relV _⟩, ⟨[4], false, [], relV _⟩, ⟨[], false, [], relV _⟩, ⟨[6], false, [], fun _ v e => ∃ (ob10 : Option Nat) (n11 : Nat) (c12 : Nat) (j13 : List Value), v = .slice (sb ob10) n11 c12 ∧ e = [(ob10, .cells (arr (intC .i64) r8 j13).toArray 3 (0, 0))] ∧ r8.length = n11 ∧ n11 ≤ c12 ∧ j13.length = (c12 - n11) * 1 ∧ (ob10 = none → c12 = 0)⟩, ⟨[1, 3, 5, 7], false, [], fun vl v e => v = (Value.agg #[.int .i64 n0.N, .int .i64 n0.S, .int .i64 n0.T, (vl.getD 3 undef), .slice none 0 0, .slice none 0 0, .slice none 0 0, .slice none 0 0, .slice none 0 0]) ∧ e = []⟩, ⟨[], false, [], fun _ v e => ∃ (b19 : Nat), v = .pointer (some ⟨b19, 0, none⟩) ∧ e = [(some b19, .cells #[.int .i64 0, .int .i64 0, .int .i64 0, .slice none 0 0, .slice none 0 0, .slice none 0 0, .slice none 0 0, .slice none 0 0, .slice none 0 0] 32 (0, 0))]⟩] [19, 20, 21, 22, 23, 24, 25, 26, 27, 5] 10 (HRk [[]]) [[]] [] [(some b3, .cells #[.int .i64 0, .int .i64 0, .int .i64 0, .slice none 0 0, .slice none 0 0, .slice none 0 0, .slice none 0 0, .slice none 0 0, .slice none 0 0] 32 (0, 0)), (some b1, .cells #[.int .i64 n0.N, .int .i64 n0.S, .int .i64 n0.T, .slice n0f3_b n0f3_n n0f3_c] 24 (0, 0))]
    · exact mixed
    · exact rfl
    · kernel_rfl
    · kernel_rfl
    · kernel_rfl
    · exact rfl
    · exact rfl
    · exact rfl
    · exact rfl
    · exact (by repeat (first | exact Pick.refl _ | exact Pick.nil | apply Pick.none | refine Pick.cons (by repeat (first | exact Take.head _ _ | apply Take.tail)) ?_))
    · refine ⟨?_, ?_, ?_, ?_, ?_, ?_, ?_, ?_, ?_, ?_, trivial⟩
      · rintro vs es Es Hx -
        refine TO.reenv (D := []) rfl ?_
        refine TO.fieldAddr0 rfl rfl rfl rfl TWBS4.f24_0 ?_
        refine TO.done ?_; exact X.obQ rfl ⟨rfl, rfl⟩ (Pick.refl _) rfl
      · rintro vs es Es Hx ⟨⟨h_0, e_0⟩, -⟩
        refine TO.reenv (D := [(19, vs 0)]) rfl ?_; rw [h_0]
        refine TO.load1 rfl rfl rfl rfl TWBS4.s3 mm1 rfl ?_
        refine TO.done ?_; exact X.obQ rfl ⟨rfl, rfl⟩ (Pick.refl _) (by show [(19, vs 0)] = _; rw [h_0])
      · rintro vs es Es Hx -
        refine TO.reenv (D := []) rfl ?_
        refine TO.fieldAddr0 rfl rfl rfl rfl TWBS4.f24_1 ?_
        refine TO.done ?_; exact X.obQ rfl ⟨rfl, rfl⟩ (Pick.refl _) rfl
      · rintro vs es Es Hx ⟨⟨h_2, e_2⟩, -⟩
        refine TO.reenv (D := [(21, vs 2)]) rfl ?_; rw [h_2]
        refine TO.load1 rfl rfl rfl rfl TWBS4.s3 mm1 rfl ?_
        refine TO.done ?_; exact X.obQ rfl ⟨rfl, rfl⟩ (Pick.refl _) (by show [(21, vs 2)] = _; rw [h_2])
      · rintro vs es Es Hx -
        refine TO.reenv (D := []) rfl ?_
        refine TO.fieldAddr0 rfl rfl rfl rfl TWBS4.f24_2 ?_
        refine TO.done ?_; exact X.obQ rfl ⟨rfl, rfl⟩ (Pick.refl _) rfl
      · rintro vs es Es Hx ⟨⟨h_4, e_4⟩, -⟩
        refine TO.reenv (D := [(23, vs 4)]) rfl ?_; rw [h_4]
        refine TO.load1 rfl rfl rfl rfl TWBS4.s3 mm1 rfl ?_
        refine TO.done ?_; exact X.obQ rfl ⟨rfl, rfl⟩ (Pick.refl _) (by show [(23, vs 4)] = _; rw [h_4])
      · rintro vs es Es Hx -
        refine TO.reenv (D := []) rfl ?_
        refine TO.loadA rfl rfl rfl rfl TWBS4.a24 mm1 rfl ?_
        refine TO.done ?_; exact X.obQ rfl ⟨rfl, rfl⟩ (Pick.refl _) rfl
      · rintro vs es Es Hx ⟨⟨h_6, e_6⟩, -⟩
        refine TO.reenv (D := [(25, vs 6)]) rfl ?_; rw [h_6]
        refine TO.callX TWBS4.c85 rfl rfl rfl rfl (fun wc hwc => w_csr_counted (n0 := n0) wc (h_n0f3.mono hwc) e9) ?_
        rintro _ _ ⟨ob10, n11, c12, j13, rfl, rfl, hn14, hc15, hj16, hz17⟩
        refine TO.done ?_; exact X.obQ rfl ⟨ob10, n11, c12, j13, rfl, rfl, hn14, hc15, hj16, hz17⟩ (by repeat (first | exact Pick.refl _ | exact Pick.nil | apply Pick.none | refine Pick.cons (by repeat (first | exact Take.head _ _ | apply Take.tail)) ?_)) (by show [(25, vs 6)] = _; rw [h_6])
      · rintro vs es Es Hx ⟨⟨h_1, e_1⟩, ⟨h_3, e_3⟩, ⟨h_5, e_5⟩, ⟨ob10, n11, c12, j13, h_7, e_7, hn14, hc15, hj16, hz17⟩, -⟩
        refine TO.reenv (D := [(20, vs 1), (22, vs 3), (24, vs 5), (26, vs 7)]) rfl ?_; rw [h_1, h_3, h_5, h_7]
        refine TO.reheap (H := [(some b3, .cells #[.int .i64 0, .int .i64 0, .int .i64 0, .slice none 0 0, .slice none 0 0, .slice none 0 0, .slice none 0 0, .slice none 0 0, .slice none 0 0] 32 (0, 0)), (some b1, .cells #[.int .i64 n0.N, .int .i64 n0.S, .int .i64 n0.T, .slice n0f3_b n0f3_n n0f3_c] 24 (0, 0))] ++ ([(ob10, .cells (arr (intC .i64) r8 j13).toArray 3 (0, 0))] ++ Hx)) (by show _ ++ ((es 1 ++ (es 3 ++ (es 5 ++ (es 7 ++ ([]))))) ++ _) = _; rw [e_1, e_3, e_5, e_7]; rfl) ?_
        refine TO.buildS (t := 32) [.int .i64 0, .int .i64 0, .int .i64 0, .slice none 0 0, .slice none 0 0, .slice none 0 0, .slice none 0 0, .slice none 0 0, .slice none 0 0] [0, 1, 2, 3, 4, 5, 6, 7, 8] rfl rfl rfl rfl (by simp only [setAll, setCells, Value.cells, List.toList_toArray, List.getD_cons_zero, List.getD_cons_succ, List.set_cons_zero, List.set_cons_succ]; rfl) (by kernel_rfl) ?_
        refine TO.done ?_; exact X.obQ rfl ⟨by show _ = (Value.agg #[.int .i64 n0.N, .int .i64 n0.S, .int .i64 n0.T, vs 7, .slice none 0 0, .slice none 0 0, .slice none 0 0, .slice none 0 0, .slice none 0 0]); rw [h_7] <;> rfl, rfl⟩ (by show Pick (_ ++ (_ ++ ((es 1 ++ (es 3 ++ (es 5 ++ (es 7 ++ ([]))))) ++ _))) _; rw [e_1, e_3, e_5, e_7]; exact (by repeat (first | exact Pick.refl _ | exact Pick.nil | apply Pick.none | refine Pick.cons (by repeat (first | exact Take.head _ _ | apply Take.tail)) ?_))) (by show [(20, vs 1), (22, vs 3), (24, vs 5), (26, vs 7)] = _; rw [h_1, h_3, h_5, h_7])
      · rintro vs es Es Hx -
        refine TO.reenv (D := []) rfl ?_
        refine TO.allocA rfl rfl rfl TWBS4.z32 ?_; intro b19
        refine TO.done ?_; exact X.obQ rfl ⟨b19, rfl, rfl⟩ (by repeat (first | exact Pick.refl _ | exact Pick.nil | apply Pick.none | refine Pick.cons (by repeat (first | exact Take.head _ _ | apply Take.tail)) ?_)) rfl
    · rintro vs es hb ⟨⟨h_0, e_0⟩, ⟨h_1, e_1⟩, ⟨h_2, e_2⟩, ⟨h_3, e_3⟩, ⟨h_4, e_4⟩, ⟨h_5, e_5⟩, ⟨h_6, e_6⟩, ⟨ob10, n11, c12, j13, h_7, e_7, hn14, hc15, hj16, hz17⟩, ⟨q_8, e_8⟩, ⟨b19, h_9, e_9⟩, -⟩ hHR
      obtain rfl : hb = [] := hHR
      have h_8 : vs 8 = .agg #[.int .i64 n0.N, .int .i64 n0.S, .int .i64 n0.T, .slice (sb ob10) n11 c12, .slice none 0 0, .slice none 0 0, .slice none 0 0, .slice none 0 0, .slice none 0 0] := by refine Eq.trans q_8 ?_; show (Value.agg #[.int .i64 n0.N, .int .i64 n0.S, .int .i64 n0.T, vs 7, .slice none 0 0, .slice none 0 0, .slice none 0 0, .slice none 0 0, .slice none 0 0]) = _; rw [h_7] <;> rfl
      refine TO.reenv (D := [(19, vs 0), (20, vs 1), (21, vs 2), (22, vs 3), (23, vs 4), (24, vs 5), (25, vs 6), (26, vs 7), (27, vs 8), (5, vs 9)]) rfl ?_
      refine TO.reheap (H := [(some b3, .cells #[.int .i64 0, .int .i64 0, .int .i64 0, .slice none 0 0, .slice none 0 0, .slice none 0 0, .slice none 0 0, .slice none 0 0, .slice none 0 0] 32 (0, 0)), (some b1, .cells #[.int .i64 n0.N, .int .i64 n0.S, .int .i64 n0.T, .slice n0f3_b n0f3_n n0f3_c] 24 (0, 0)), (ob10, .cells (arr (intC .i64) r8 j13).toArray 3 (0, 0)), (some b19, .cells #[.int .i64 0, .int .i64 0, .int .i64 0, .slice none 0 0, .slice none 0 0, .slice none 0 0, .slice none 0 0, .slice none 0 0, .slice none 0 0] 32 (0, 0))]) (by show _ ++ (_ ++ (es 0 ++ (es 1 ++ (es 2 ++ (es 3 ++ (es 4 ++ (es 5 ++ (es 6 ++ (es 7 ++ (es 8 ++ (es 9 ++ ([])))))))))))) = _; rw [e_0, e_1, e_2, e_3, e_4, e_5, e_6, e_7, e_8, e_9]; rfl) ?_
      rw [h_0, h_1, h_2, h_3, h_4, h_5, h_6, h_7, h_8, h_9]
      clear h_9 h_8 h_7 h_6 h_5 h_4 h_3 h_2 h_1 h_0 q_8 e_0 e_1 e_2 e_3 e_4 e_5 e_6 e_7 e_8 e_9
      refine TO.storeA rfl rfl rfl rfl tk3 TWBS4.n32 rfl rfl rfl ?_
      refine TO.done ?_
      refine X.seq_normal ?_
      refine T.trim (AllF.cons (t := 1) rfl (AllF.cons (t := 2) rfl (AllF.cons (t := 5) rfl AllF.nil))) ?_
      refine T.seq ?_
      obtain ⟨g21, H⟩ := gd_some H
      refine T.regionL (ll := [0, 1, 2, 3, 4, 5, 6]) rfl ?_
      refine TO.fieldAddr0 rfl rfl rfl rfl TWBS4.f32_3 ?_
      refine TO.load1 rfl rfl rfl rfl TWBS4.s27 mm0 rfl ?_
      refine TO.fieldAddr0 rfl rfl rfl rfl TWBS4.f24_0 ?_
      refine TO.load1 rfl rfl rfl rfl TWBS4.s3 mm2 rfl ?_
      refine TO.ixV hz17 hc15 hn14 g21 rfl rfl rfl rfl rfl TWBS4.l27 TWBS4.n3 ?_
      refine TO.ldIV hz17 hc15 hn14 g21 rfl rfl rfl rfl TWBS4.s3 mm3 ?_
      refine TO.assign rfl rfl rfl rfl ?_
      refine TO.done ?_
      refine X.seq_normal ?_
      refine T.seq ?_
      obtain ⟨g22, H⟩ := gd_some H
      obtain ⟨g25, H⟩ := gd_some H
      obtain ⟨g28, H⟩ := gd_some H
      obtain ⟨g31, H⟩ := gd_some H
      obtain ⟨g34, H⟩ := gd_some H
      apply T.drawL [⟨[], false, [], relV _⟩, ⟨[0], false, [], fun _ v e => ∃ (b23 : Nat), v = .slice (some ⟨b23, 0, none⟩) ((r8.getD n0.N.toNat 0).toNat) ((r8.getD n0.N.toNat 0).toNat) ∧ e = [(some b23, .cells (arr (intC .i64) (List.replicate ((r8.getD n0.N.toNat 0).toNat) (0 : Int)) ([])).toArray 3 (0, 0))]⟩, ⟨[], false, [], relV _⟩, ⟨[2], false, [], fun _ v e => ∃ (b26 : Nat), v = .slice (some ⟨b26, 0, none⟩) ((r8.getD n0.N.toNat 0).toNat) ((r8.getD n0.N.toNat 0).toNat) ∧ e = [(some b26, .cells (arr (intC .i64) (List.replicate ((r8.getD n0.N.toNat 0).toNat) (0 : Int)) ([])).toArray 3 (0, 0))]⟩, ⟨[], false, [], relV _⟩, ⟨[4], false, [], fun _ v e => ∃ (b29 : Nat), v = .slice (some ⟨b29, 0, none⟩) ((r8.getD n0.N.toNat 0).toNat) ((r8.getD n0.N.toNat 0).toNat) ∧ e = [(some b29, .cells (arr (intC .i64) (List.replicate ((r8.getD n0.N.toNat 0).toNat) (0 : Int)) ([])).toArray 2 (0, 0))]⟩, ⟨[], false, [], relV _⟩, ⟨[6], false, [], fun _ v e => ∃ (b32 : Nat), v = .slice (some ⟨b32, 0, none⟩) ((r8.getD n0.N.toNat 0).toNat) ((r8.getD n0.N.toNat 0).toNat) ∧ e = [(some b32, .cells (arr (intC .i64) (List.replicate ((r8.getD n0.N.toNat 0).toNat) (0 : Int)) ([])).toArray 3 (0, 0))]⟩, ⟨[], false, [], relV _⟩, ⟨[8], false, [], fun _ v e => ∃ (b35 : Nat), v = .slice (some ⟨b35, 0, none⟩) ((r8.getD n0.N.toNat 0).toNat) ((r8.getD n0.N.toNat 0).toNat) ∧ e = [(some b35, .cells (arr boolC (List.replicate ((r8.getD n0.N.toNat 0).toNat) (false : Bool)) ([])).toArray 4 (0, 0))]⟩, ⟨[], false, [], relV _⟩, ⟨[1, 10], true, [], relN⟩, ⟨[], false, [], relV _⟩, ⟨[3, 12], true, [], relN⟩, ⟨[], false, [], relV _⟩, ⟨[5, 14], true, [], relN⟩, ⟨[], false, [], relV _⟩, ⟨[7, 16], true, [], relN⟩] [34, 35, 36, 37, 38, 39, 40, 41, 42, 43, 44, 45, 46, 47] 18 (HRv [fun vl => [(some b19, .cells #[.int .i64 n0.N, .int .i64 n0.S, .int .i64 n0.T, .slice (sb ob10) n11 c12, .slice none 0 0, .slice none 0 0, .slice none 0 0, .slice none 0 0, .slice none 0 0] 32 (0, 0))], fun vl => [(some b19, .cells #[.int .i64 n0.N, .int .i64 n0.S, .int .i64 n0.T, .slice (sb ob10) n11 c12, (vl.getD 0 undef), .slice none 0 0, .slice none 0 0, .slice none 0 0, .slice none 0 0] 32 (0, 0))], fun vl => [(some b19, .cells #[.int .i64 n0.N, .int .i64 n0.S, .int .i64 n0.T, .slice (sb ob10) n11 c12, (vl.getD 0 undef), (vl.getD 1 undef), .slice none 0 0, .slice none 0 0, .slice none 0 0] 32 (0, 0))], fun vl => [(some b19, .cells #[.int .i64 n0.N, .int .i64 n0.S, .int .i64 n0.T, .slice (sb ob10) n11 c12, (vl.getD 0 undef), (vl.getD 1 undef), (vl.getD 2 undef), .slice none 0 0, .slice none 0 0] 32 (0, 0))], fun vl => [(some b19, .cells #[.int .i64 n0.N, .int .i64 n0.S, .int .i64 n0.T, .slice (sb ob10) n11 c12, (vl.getD 0 undef), (vl.getD 1 undef), (vl.getD 2 undef), (vl.getD 3 undef), .slice none 0 0] 32 (0, 0))]]) [[], [1], [1, 3], [1, 3, 5], [1, 3, 5, 7]] [(some b19, .cells #[.int .i64 n0.N, .int .i64 n0.S, .int .i64 n0.T, .slice (sb ob10) n11 c12, .slice none 0 0, .slice none 0 0, .slice none 0 0, .slice none 0 0, .slice none 0 0] 32 (0, 0))] [(some b3, .cells #[.int .i64 0, .int .i64 0, .int .i64 0, .slice none 0 0, .slice none 0 0, .slice none 0 0, .slice none 0 0, .slice none 0 0, .slice none 0 0] 32 (0, 0)), (some b1, .cells #[.int .i64 n0.N, .int .i64 n0.S, .int .i64 n0.T, .slice n0f3_b n0f3_n n0f3_c] 24 (0, 0)), (ob10, .cells (arr (intC .i64) r8 j13).toArray 3 (0, 0))]
      · exact mixed
      · exact rfl
      · kernel_rfl
      · kernel_rfl
      · kernel_rfl
      · exact rfl
      · exact rfl
      · exact rfl
      · exact rfl
      · exact (by repeat (first | exact Pick.refl _ | exact Pick.nil | apply Pick.none | refine Pick.cons (by repeat (first | exact Take.head _ _ | apply Take.tail)) ?_))
      · refine ⟨?_, ?_, ?_, ?_, ?_, ?_, ?_, ?_, ?_, ?_, ?_, ?_, ?_, ?_, ?_, ?_, ?_, ?_, trivial⟩
        · rintro vs es Es Hx -
          refine TO.reenv (D := []) rfl ?_
          refine TO.move rfl rfl rfl rfl ?_
          refine TO.done ?_; exact X.obQ rfl ⟨rfl, rfl⟩ (Pick.refl _) rfl
        · rintro vs es Es Hx ⟨⟨h_0, e_0⟩, -⟩
          refine TO.reenv (D := [(34, vs 0)]) rfl ?_; rw [h_0]
          refine TO.mkI g22 rfl rfl rfl rfl rfl TWBS4.l27 TWBS4.n3 TWBS4.z3 TWBS4.b3 rfl ?_; intro b23
          refine TO.done ?_; exact X.obQ rfl ⟨b23, rfl, rfl⟩ (by repeat (first | exact Pick.refl _ | exact Pick.nil | apply Pick.none | refine Pick.cons (by repeat (first | exact Take.head _ _ | apply Take.tail)) ?_)) (by show [(34, vs 0)] = _; rw [h_0])
        · rintro vs es Es Hx -
          refine TO.reenv (D := []) rfl ?_
          refine TO.move rfl rfl rfl rfl ?_
          refine TO.done ?_; exact X.obQ rfl ⟨rfl, rfl⟩ (Pick.refl _) rfl
        · rintro vs es Es Hx ⟨⟨h_2, e_2⟩, -⟩
          refine TO.reenv (D := [(36, vs 2)]) rfl ?_; rw [h_2]
          refine TO.mkI g25 rfl rfl rfl rfl rfl TWBS4.l27 TWBS4.n3 TWBS4.z3 TWBS4.b3 rfl ?_; intro b26
          refine TO.done ?_; exact X.obQ rfl ⟨b26, rfl, rfl⟩ (by repeat (first | exact Pick.refl _ | exact Pick.nil | apply Pick.none | refine Pick.cons (by repeat (first | exact Take.head _ _ | apply Take.tail)) ?_)) (by show [(36, vs 2)] = _; rw [h_2])
        · rintro vs es Es Hx -
          refine TO.reenv (D := []) rfl ?_
          refine TO.move rfl rfl rfl rfl ?_
          refine TO.done ?_; exact X.obQ rfl ⟨rfl, rfl⟩ (Pick.refl _) rfl
        · rintro vs es Es Hx ⟨⟨h_4, e_4⟩, -⟩
          refine TO.reenv (D := [(38, vs 4)]) rfl ?_; rw [h_4]
          refine TO.mkI g28 rfl rfl rfl rfl rfl TWBS4.l26 TWBS4.n2 TWBS4.z2 TWBS4.b2 rfl ?_; intro b29
          refine TO.done ?_; exact X.obQ rfl ⟨b29, rfl, rfl⟩ (by repeat (first | exact Pick.refl _ | exact Pick.nil | apply Pick.none | refine Pick.cons (by repeat (first | exact Take.head _ _ | apply Take.tail)) ?_)) (by show [(38, vs 4)] = _; rw [h_4])
        · rintro vs es Es Hx -
          refine TO.reenv (D := []) rfl ?_
          refine TO.move rfl rfl rfl rfl ?_
          refine TO.done ?_; exact X.obQ rfl ⟨rfl, rfl⟩ (Pick.refl _) rfl
        · rintro vs es Es Hx ⟨⟨h_6, e_6⟩, -⟩
          refine TO.reenv (D := [(40, vs 6)]) rfl ?_; rw [h_6]
          refine TO.mkI g31 rfl rfl rfl rfl rfl TWBS4.l27 TWBS4.n3 TWBS4.z3 TWBS4.b3 rfl ?_; intro b32
          refine TO.done ?_; exact X.obQ rfl ⟨b32, rfl, rfl⟩ (by repeat (first | exact Pick.refl _ | exact Pick.nil | apply Pick.none | refine Pick.cons (by repeat (first | exact Take.head _ _ | apply Take.tail)) ?_)) (by show [(40, vs 6)] = _; rw [h_6])
        · rintro vs es Es Hx -
          refine TO.reenv (D := []) rfl ?_
          refine TO.move rfl rfl rfl rfl ?_
          refine TO.done ?_; exact X.obQ rfl ⟨rfl, rfl⟩ (Pick.refl _) rfl
        · rintro vs es Es Hx ⟨⟨h_8, e_8⟩, -⟩
          refine TO.reenv (D := [(42, vs 8)]) rfl ?_; rw [h_8]
          refine TO.mkB g34 rfl rfl rfl rfl rfl TWBS4.l30 TWBS4.n4 TWBS4.z4 TWBS4.b4 rfl ?_; intro b35
          refine TO.done ?_; exact X.obQ rfl ⟨b35, rfl, rfl⟩ (by repeat (first | exact Pick.refl _ | exact Pick.nil | apply Pick.none | refine Pick.cons (by repeat (first | exact Take.head _ _ | apply Take.tail)) ?_)) (by show [(42, vs 8)] = _; rw [h_8])
        · rintro vs es Es Hx -
          refine TO.reenv (D := []) rfl ?_
          refine TO.fieldAddr0 rfl rfl rfl rfl TWBS4.f32_4 ?_
          refine TO.done ?_; exact X.obQ rfl ⟨rfl, rfl⟩ (Pick.refl _) rfl
        · rintro vs es Es Hx hb ⟨⟨b23, h_1, e_1⟩, ⟨h_10, e_10⟩, -⟩ hHR
          obtain rfl : hb = [(some b19, .cells #[.int .i64 n0.N, .int .i64 n0.S, .int .i64 n0.T, .slice (sb ob10) n11 c12, .slice none 0 0, .slice none 0 0, .slice none 0 0, .slice none 0 0, .slice none 0 0] 32 (0, 0))] := hHR
          refine TO.reenv (D := [(35, vs 1), (44, vs 10)]) rfl ?_; rw [h_1, h_10]
          refine TO.reheap (H := [(some b19, .cells #[.int .i64 n0.N, .int .i64 n0.S, .int .i64 n0.T, .slice (sb ob10) n11 c12, .slice none 0 0, .slice none 0 0, .slice none 0 0, .slice none 0 0, .slice none 0 0] 32 (0, 0))] ++ ([(some b3, .cells #[.int .i64 0, .int .i64 0, .int .i64 0, .slice none 0 0, .slice none 0 0, .slice none 0 0, .slice none 0 0, .slice none 0 0, .slice none 0 0] 32 (0, 0)), (some b1, .cells #[.int .i64 n0.N, .int .i64 n0.S, .int .i64 n0.T, .slice n0f3_b n0f3_n n0f3_c] 24 (0, 0)), (ob10, .cells (arr (intC .i64) r8 j13).toArray 3 (0, 0))] ++ ([(some b23, .cells (arr (intC .i64) (List.replicate ((r8.getD n0.N.toNat 0).toNat) (0 : Int)) ([])).toArray 3 (0, 0))] ++ Hx))) (by show _ ++ (_ ++ ((es 1 ++ (es 10 ++ ([]))) ++ _)) = _; rw [e_1, e_10]; rfl) ?_
          refine TO.store1n (cs' := [.int .i64 n0.N, .int .i64 n0.S, .int .i64 n0.T, .slice (sb ob10) n11 c12, .slice (some ⟨b23, 0, none⟩) ((r8.getD n0.N.toNat 0).toNat) ((r8.getD n0.N.toNat 0).toNat), .slice none 0 0, .slice none 0 0, .slice none 0 0, .slice none 0 0]) rfl rfl rfl rfl tk0 TWBS4.n27 rfl rfl rfl ?_
          rw [← h_1]
          refine TO.done ?_; exact X.obE (hb' := [(some b19, .cells #[.int .i64 n0.N, .int .i64 n0.S, .int .i64 n0.T, .slice (sb ob10) n11 c12, (vs 1), .slice none 0 0, .slice none 0 0, .slice none 0 0, .slice none 0 0] 32 (0, 0))]) rfl rfl rfl (by show Pick (_ ++ (_ ++ ((es 1 ++ (es 10 ++ ([]))) ++ _))) _; rw [e_1, e_10]; exact (by repeat (first | exact Pick.refl _ | exact Pick.nil | apply Pick.none | refine Pick.cons (by repeat (first | exact Take.head _ _ | apply Take.tail)) ?_))) (by show [(35, vs 1), (44, vs 10)] = _; rw [h_10])
        · rintro vs es Es Hx -
          refine TO.reenv (D := []) rfl ?_
          refine TO.fieldAddr0 rfl rfl rfl rfl TWBS4.f32_5 ?_
          refine TO.done ?_; exact X.obQ rfl ⟨rfl, rfl⟩ (Pick.refl _) rfl
        · rintro vs es Es Hx hb ⟨⟨b26, h_3, e_3⟩, ⟨h_12, e_12⟩, -⟩ hHR
          obtain rfl : hb = [(some b19, .cells #[.int .i64 n0.N, .int .i64 n0.S, .int .i64 n0.T, .slice (sb ob10) n11 c12, (vs 1), .slice none 0 0, .slice none 0 0, .slice none 0 0, .slice none 0 0] 32 (0, 0))] := hHR
          refine TO.reenv (D := [(37, vs 3), (45, vs 12)]) rfl ?_; rw [h_3, h_12]
          refine TO.reheap (H := [(some b19, .cells #[.int .i64 n0.N, .int .i64 n0.S, .int .i64 n0.T, .slice (sb ob10) n11 c12, (vs 1), .slice none 0 0, .slice none 0 0, .slice none 0 0, .slice none 0 0] 32 (0, 0))] ++ ([(some b3, .cells #[.int .i64 0, .int .i64 0, .int .i64 0, .slice none 0 0, .slice none 0 0, .slice none 0 0, .slice none 0 0, .slice none 0 0, .slice none 0 0] 32 (0, 0)), (some b1, .cells #[.int .i64 n0.N, .int .i64 n0.S, .int .i64 n0.T, .slice n0f3_b n0f3_n n0f3_c] 24 (0, 0)), (ob10, .cells (arr (intC .i64) r8 j13).toArray 3 (0, 0))] ++ ([(some b26, .cells (arr (intC .i64) (List.replicate ((r8.getD n0.N.toNat 0).toNat) (0 : Int)) ([])).toArray 3 (0, 0))] ++ Hx))) (by show _ ++ (_ ++ ((es 3 ++ (es 12 ++ ([]))) ++ _)) = _; rw [e_3, e_12]; rfl) ?_
          refine TO.store1n (cs' := [.int .i64 n0.N, .int .i64 n0.S, .int .i64 n0.T, .slice (sb ob10) n11 c12, (vs 1), .slice (some ⟨b26, 0, none⟩) ((r8.getD n0.N.toNat 0).toNat) ((r8.getD n0.N.toNat 0).toNat), .slice none 0 0, .slice none 0 0, .slice none 0 0]) rfl rfl rfl rfl tk0 TWBS4.n27 rfl rfl rfl ?_
          rw [← h_3]
          refine TO.done ?_; exact X.obE (hb' := [(some b19, .cells #[.int .i64 n0.N, .int .i64 n0.S, .int .i64 n0.T, .slice (sb ob10) n11 c12, (vs 1), (vs 3), .slice none 0 0, .slice none 0 0, .slice none 0 0] 32 (0, 0))]) rfl rfl rfl (by show Pick (_ ++ (_ ++ ((es 3 ++ (es 12 ++ ([]))) ++ _))) _; rw [e_3, e_12]; exact (by repeat (first | exact Pick.refl _ | exact Pick.nil | apply Pick.none | refine Pick.cons (by repeat (first | exact Take.head _ _ | apply Take.tail)) ?_))) (by show [(37, vs 3), (45, vs 12)] = _; rw [h_12])
        · rintro vs es Es Hx -
          refine TO.reenv (D := []) rfl ?_
          refine TO.fieldAddr0 rfl rfl rfl rfl TWBS4.f32_6 ?_
          refine TO.done ?_; exact X.obQ rfl ⟨rfl, rfl⟩ (Pick.refl _) rfl
        · rintro vs es Es Hx hb ⟨⟨b29, h_5, e_5⟩, ⟨h_14, e_14⟩, -⟩ hHR
          obtain rfl : hb = [(some b19, .cells #[.int .i64 n0.N, .int .i64 n0.S, .int .i64 n0.T, .slice (sb ob10) n11 c12, (vs 1), (vs 3), .slice none 0 0, .slice none 0 0, .slice none 0 0] 32 (0, 0))] := hHR
          refine TO.reenv (D := [(39, vs 5), (46, vs 14)]) rfl ?_; rw [h_5, h_14]
          refine TO.reheap (H := [(some b19, .cells #[.int .i64 n0.N, .int .i64 n0.S, .int .i64 n0.T, .slice (sb ob10) n11 c12, (vs 1), (vs 3), .slice none 0 0, .slice none 0 0, .slice none 0 0] 32 (0, 0))] ++ ([(some b3, .cells #[.int .i64 0, .int .i64 0, .int .i64 0, .slice none 0 0, .slice none 0 0, .slice none 0 0, .slice none 0 0, .slice none 0 0, .slice none 0 0] 32 (0, 0)), (some b1, .cells #[.int .i64 n0.N, .int .i64 n0.S, .int .i64 n0.T, .slice n0f3_b n0f3_n n0f3_c] 24 (0, 0)), (ob10, .cells (arr (intC .i64) r8 j13).toArray 3 (0, 0))] ++ ([(some b29, .cells (arr (intC .i64) (List.replicate ((r8.getD n0.N.toNat 0).toNat) (0 : Int)) ([])).toArray 2 (0, 0))] ++ Hx))) (by show _ ++ (_ ++ ((es 5 ++ (es 14 ++ ([]))) ++ _)) = _; rw [e_5, e_14]; rfl) ?_
          refine TO.store1n (cs' := [.int .i64 n0.N, .int .i64 n0.S, .int .i64 n0.T, .slice (sb ob10) n11 c12, (vs 1), (vs 3), .slice (some ⟨b29, 0, none⟩) ((r8.getD n0.N.toNat 0).toNat) ((r8.getD n0.N.toNat 0).toNat), .slice none 0 0, .slice none 0 0]) rfl rfl rfl rfl tk0 TWBS4.n26 rfl rfl rfl ?_
          rw [← h_5]
          refine TO.done ?_; exact X.obE (hb' := [(some b19, .cells #[.int .i64 n0.N, .int .i64 n0.S, .int .i64 n0.T, .slice (sb ob10) n11 c12, (vs 1), (vs 3), (vs 5), .slice none 0 0, .slice none 0 0] 32 (0, 0))]) rfl rfl rfl (by show Pick (_ ++ (_ ++ ((es 5 ++ (es 14 ++ ([]))) ++ _))) _; rw [e_5, e_14]; exact (by repeat (first | exact Pick.refl _ | exact Pick.nil | apply Pick.none | refine Pick.cons (by repeat (first | exact Take.head _ _ | apply Take.tail)) ?_))) (by show [(39, vs 5), (46, vs 14)] = _; rw [h_14])
        · rintro vs es Es Hx -
          refine TO.reenv (D := []) rfl ?_
          refine TO.fieldAddr0 rfl rfl rfl rfl TWBS4.f32_7 ?_
          refine TO.done ?_; exact X.obQ rfl ⟨rfl, rfl⟩ (Pick.refl _) rfl
        · rintro vs es Es Hx hb ⟨⟨b32, h_7, e_7⟩, ⟨h_16, e_16⟩, -⟩ hHR
          obtain rfl : hb = [(some b19, .cells #[.int .i64 n0.N, .int .i64 n0.S, .int .i64 n0.T, .slice (sb ob10) n11 c12, (vs 1), (vs 3), (vs 5), .slice none 0 0, .slice none 0 0] 32 (0, 0))] := hHR
          refine TO.reenv (D := [(41, vs 7), (47, vs 16)]) rfl ?_; rw [h_7, h_16]
          refine TO.reheap (H := [(some b19, .cells #[.int .i64 n0.N, .int .i64 n0.S, .int .i64 n0.T, .slice (sb ob10) n11 c12, (vs 1), (vs 3), (vs 5), .slice none 0 0, .slice none 0 0] 32 (0, 0))] ++ ([(some b3, .cells #[.int .i64 0, .int .i64 0, .int .i64 0, .slice none 0 0, .slice none 0 0, .slice none 0 0, .slice none 0 0, .slice none 0 0, .slice none 0 0] 32 (0, 0)), (some b1, .cells #[.int .i64 n0.N, .int .i64 n0.S, .int .i64 n0.T, .slice n0f3_b n0f3_n n0f3_c] 24 (0, 0)), (ob10, .cells (arr (intC .i64) r8 j13).toArray 3 (0, 0))] ++ ([(some b32, .cells (arr (intC .i64) (List.replicate ((r8.getD n0.N.toNat 0).toNat) (0 : Int)) ([])).toArray 3 (0, 0))] ++ Hx))) (by show _ ++ (_ ++ ((es 7 ++ (es 16 ++ ([]))) ++ _)) = _; rw [e_7, e_16]; rfl) ?_
          refine TO.store1n (cs' := [.int .i64 n0.N, .int .i64 n0.S, .int .i64 n0.T, .slice (sb ob10) n11 c12, (vs 1), (vs 3), (vs 5), .slice (some ⟨b32, 0, none⟩) ((r8.getD n0.N.toNat 0).toNat) ((r8.getD n0.N.toNat 0).toNat), .slice none 0 0]) rfl rfl rfl rfl tk0 TWBS4.n27 rfl rfl rfl ?_
          rw [← h_7]
          refine TO.done ?_; exact X.obE (hb' := [(some b19, .cells #[.int .i64 n0.N, .int .i64 n0.S, .int .i64 n0.T, .slice (sb ob10) n11 c12, (vs 1), (vs 3), (vs 5), (vs 7), .slice none 0 0] 32 (0, 0))]) rfl rfl rfl (by show Pick (_ ++ (_ ++ ((es 7 ++ (es 16 ++ ([]))) ++ _))) _; rw [e_7, e_16]; exact (by repeat (first | exact Pick.refl _ | exact Pick.nil | apply Pick.none | refine Pick.cons (by repeat (first | exact Take.head _ _ | apply Take.tail)) ?_))) (by show [(41, vs 7), (47, vs 16)] = _; rw [h_16])
      · rintro vs es hb ⟨⟨h_0, e_0⟩, ⟨b23, h_1, e_1⟩, ⟨h_2, e_2⟩, ⟨b26, h_3, e_3⟩, ⟨h_4, e_4⟩, ⟨b29, h_5, e_5⟩, ⟨h_6, e_6⟩, ⟨b32, h_7, e_7⟩, ⟨h_8, e_8⟩, ⟨b35, h_9, e_9⟩, ⟨h_10, e_10⟩, e_11, ⟨h_12, e_12⟩, e_13, ⟨h_14, e_14⟩, e_15, ⟨h_16, e_16⟩, e_17, -⟩ hHR
        obtain rfl : hb = [(some b19, .cells #[.int .i64 n0.N, .int .i64 n0.S, .int .i64 n0.T, .slice (sb ob10) n11 c12, (vs 1), (vs 3), (vs 5), (vs 7), .slice none 0 0] 32 (0, 0))] := hHR
        refine TO.reenv (D := [(34, vs 0), (35, vs 1), (36, vs 2), (37, vs 3), (38, vs 4), (39, vs 5), (40, vs 6), (41, vs 7), (42, vs 8), (43, vs 9), (44, vs 10), (45, vs 12), (46, vs 14), (47, vs 16)]) rfl ?_
        refine TO.reheap (H := [(some b19, .cells #[.int .i64 n0.N, .int .i64 n0.S, .int .i64 n0.T, .slice (sb ob10) n11 c12, (vs 1), (vs 3), (vs 5), (vs 7), .slice none 0 0] 32 (0, 0)), (some b3, .cells #[.int .i64 0, .int .i64 0, .int .i64 0, .slice none 0 0, .slice none 0 0, .slice none 0 0, .slice none 0 0, .slice none 0 0, .slice none 0 0] 32 (0, 0)), (some b1, .cells #[.int .i64 n0.N, .int .i64 n0.S, .int .i64 n0.T, .slice n0f3_b n0f3_n n0f3_c] 24 (0, 0)), (ob10, .cells (arr (intC .i64) r8 j13).toArray 3 (0, 0)), (some b23, .cells (arr (intC .i64) (List.replicate ((r8.getD n0.N.toNat 0).toNat) (0 : Int)) ([])).toArray 3 (0, 0)), (some b26, .cells (arr (intC .i64) (List.replicate ((r8.getD n0.N.toNat 0).toNat) (0 : Int)) ([])).toArray 3 (0, 0)), (some b29, .cells (arr (intC .i64) (List.replicate ((r8.getD n0.N.toNat 0).toNat) (0 : Int)) ([])).toArray 2 (0, 0)), (some b32, .cells (arr (intC .i64) (List.replicate ((r8.getD n0.N.toNat 0).toNat) (0 : Int)) ([])).toArray 3 (0, 0)), (some b35, .cells (arr boolC (List.replicate ((r8.getD n0.N.toNat 0).toNat) (false : Bool)) ([])).toArray 4 (0, 0))]) (by show _ ++ (_ ++ (es 0 ++ (es 1 ++ (es 2 ++ (es 3 ++ (es 4 ++ (es 5 ++ (es 6 ++ (es 7 ++ (es 8 ++ (es 9 ++ (es 10 ++ (es 11 ++ (es 12 ++ (es 13 ++ (es 14 ++ (es 15 ++ (es 16 ++ (es 17 ++ ([])))))))))))))))))))) = _; rw [e_0, e_1, e_2, e_3, e_4, e_5, e_6, e_7, e_8, e_9, e_10, e_11, e_12, e_13, e_14, e_15, e_16, e_17]; rfl) ?_
        rw [h_0, h_1, h_2, h_3, h_4, h_5, h_6, h_7, h_8, h_9, h_10, h_12, h_14, h_16]
        clear h_16 h_14 h_12 h_10 h_9 h_8 h_7 h_6 h_5 h_4 h_3 h_2 h_1 h_0 e_0 e_1 e_2 e_3 e_4 e_5 e_6 e_7 e_8 e_9 e_10 e_11 e_12 e_13 e_14 e_15 e_16 e_17
        refine TO.fieldAddr0 rfl rfl rfl rfl TWBS4.f32_8 ?_
        refine TO.store1n (cs' := [.int .i64 n0.N, .int .i64 n0.S, .int .i64 n0.T, .slice (sb ob10) n11 c12, .slice (some ⟨b23, 0, none⟩) ((r8.getD n0.N.toNat 0).toNat) ((r8.getD n0.N.toNat 0).toNat), .slice (some ⟨b26, 0, none⟩) ((r8.getD n0.N.toNat 0).toNat) ((r8.getD n0.N.toNat 0).toNat), .slice (some ⟨b29, 0, none⟩) ((r8.getD n0.N.toNat 0).toNat) ((r8.getD n0.N.toNat 0).toNat), .slice (some ⟨b32, 0, none⟩) ((r8.getD n0.N.toNat 0).toNat) ((r8.getD n0.N.toNat 0).toNat), .slice (some ⟨b35, 0, none⟩) ((r8.getD n0.N.toNat 0).toNat) ((r8.getD n0.N.toNat 0).toNat)]) rfl rfl rfl rfl tk0 TWBS4.n30 rfl rfl rfl ?_
        refine TO.done ?_
        refine X.seq_normal ?_
        refine T.trim (AllF.cons (t := 1) rfl (AllF.cons (t := 2) rfl (AllF.cons (t := 5) rfl AllF.nil))) ?_
        refine T.seq ?_
        obtain ⟨r37, e38, H⟩ := bd_some H
        refine T.regionL (ll := [0, 1, 2, 3, 4]) rfl ?_
        refine TO.fieldAddr0 rfl rfl rfl rfl TWBS4.f32_3 ?_
        refine TO.load1 rfl rfl rfl rfl TWBS4.s27 mm0 rfl ?_
        refine TO.callX TWBS4.c65 rfl rfl rfl rfl (fun wc hwc => w_slices_Clone_int (s0 := r8) wc (hwc.rs (f := (intC .i64)) (s := 1) (xs := r8) (j := j13) (fun _ => rfl) mm3 hn14 hc15 hz17) e38) ?_
        rintro _ _ ⟨ob39, n40, c41, j42, rfl, rfl, hn43, hc44, hj45, hz46⟩
        refine TO.alloc rfl rfl rfl TWBS4.z27 ?_; intro b48
        refine TO.store1n (cs' := [.slice (sb ob39) n40 c41]) rfl rfl rfl rfl tk0 TWBS4.n27 rfl rfl rfl ?_
        refine TO.done ?_
        refine X.seq_normal ?_
        refine T.seq ?_
        refine T.regionL (ll := [0, 1]) rfl ?_
        refine TO.makeFunc rfl rfl rfl rfl rfl ?_
        refine TO.assign rfl rfl rfl rfl ?_
        refine TO.done ?_
        refine X.seq_normal ?_
        refine T.seq ?_
        refine T.seq ?_
        refine T.regionL (ll := [0, 1, 2, 3]) rfl ?_
        refine TO.fieldAddr0 rfl rfl rfl rfl TWBS4.f24_3 ?_
        refine TO.load1 rfl rfl rfl rfl TWBS4.s22 mm4 rfl ?_
        refine TO.lenX (xs := n0.Arcs) h_n0f3.len rfl rfl rfl rfl rfl TWBS4.l22 ?_
        refine TO.move rfl rfl rfl rfl ?_
        refine TO.done ?_
        refine X.seq_normal ?_
        refine T.meetSE5 (fun (xs90 : List Int) (xs92 : List Int) (xs94 : List Int) (xs96 : List Int) (xs98 : List Bool) => m_csr_Make_j2 n0 r8 xs90 xs92 xs94 xs96 xs98 = some (r0, r1) ∧ xs90.length = (r8.getD n0.N.toNat 0).toNat ∧ xs92.length = (r8.getD n0.N.toNat 0).toNat ∧ xs94.length = (r8.getD n0.N.toNat 0).toNat ∧ xs96.length = (r8.getD n0.N.toNat 0).toNat ∧ xs98.length = (r8.getD n0.N.toNat 0).toNat) (fun (xs90 : List Int) (xs92 : List Int) (xs94 : List Int) (xs96 : List Int) (xs98 : List Bool) => [(2, .pointer (some ⟨b3, 0, none⟩)), (5, .pointer (some ⟨b19, 0, none⟩))]) (fun (xs90 : List Int) (xs92 : List Int) (xs94 : List Int) (xs96 : List Int) (xs98 : List Bool) => [(some b3, .cells #[.int .i64 0, .int .i64 0, .int .i64 0, .slice none 0 0, .slice none 0 0, .slice none 0 0, .slice none 0 0, .slice none 0 0, .slice none 0 0] 32 (0, 0)), (some b19, .cells #[.int .i64 n0.N, .int .i64 n0.S, .int .i64 n0.T, .slice (sb ob10) n11 c12, .slice (some ⟨b23, 0, none⟩) ((r8.getD n0.N.toNat 0).toNat) ((r8.getD n0.N.toNat 0).toNat), .slice (some ⟨b26, 0, none⟩) ((r8.getD n0.N.toNat 0).toNat) ((r8.getD n0.N.toNat 0).toNat), .slice (some ⟨b29, 0, none⟩) ((r8.getD n0.N.toNat 0).toNat) ((r8.getD n0.N.toNat 0).toNat), .slice (some ⟨b32, 0, none⟩) ((r8.getD n0.N.toNat 0).toNat) ((r8.getD n0.N.toNat 0).toNat), .slice (some ⟨b35, 0, none⟩) ((r8.getD n0.N.toNat 0).toNat) ((r8.getD n0.N.toNat 0).toNat)] 32 (0, 0)), (ob10, .cells (arr (intC .i64) r8 j13).toArray 3 (0, 0)), (some b23, .cells (arr (intC .i64) xs90 ([])).toArray 3 (0, 0)), (some b26, .cells (arr (intC .i64) xs92 ([])).toArray 3 (0, 0)), (some b29, .cells (arr (intC .i64) xs94 ([])).toArray 2 (0, 0)), (some b32, .cells (arr (intC .i64) xs96 ([])).toArray 3 (0, 0)), (some b35, .cells (arr boolC xs98 ([])).toArray 4 (0, 0))]) ?_ ?_
        ·
          refine T.block ?_
          obtain ⟨o_1, e_1, K_1⟩ := bd_some H
          refine T.loopE8 (fun (m_1 : Nat) (xs50 : List Int) (xs52 : List Int) (xs54 : List Int) (xs56 : List Int) (xs58 : List Bool) (xs60 : List Int) (x62 : Int) => loopM (fun s => m_csr_Make_s1 n0 r8 s.1 s.2.1 s.2.2.1 s.2.2.2.1 s.2.2.2.2.1 s.2.2.2.2.2.1 s.2.2.2.2.2.2) m_1 (xs50, xs52, xs54, xs56, xs58, xs60, x62) = some o_1 ∧ xs50.length = (r8.getD n0.N.toNat 0).toNat ∧ xs52.length = (r8.getD n0.N.toNat 0).toNat ∧ xs54.length = (r8.getD n0.N.toNat 0).toNat ∧ xs56.length = (r8.getD n0.N.toNat 0).toNat ∧ xs58.length = (r8.getD n0.N.toNat 0).toNat ∧ xs60.length = n40) (fun (m_1 : Nat) (xs50 : List Int) (xs52 : List Int) (xs54 : List Int) (xs56 : List Int) (xs58 : List Bool) (xs60 : List Int) (x62 : Int) => [(2, .pointer (some ⟨b3, 0, none⟩)), (5, .pointer (some ⟨b19, 0, none⟩)), (8, .func (.func 86) #[] #[.pointer (some ⟨b48, 0, none⟩), .pointer (some ⟨b19, 0, none⟩)]), (54, .slice n0f3_b n0f3_n n0f3_c), (55, .int .i64 (n0.Arcs.length : Int)), (56, .int .i64 x62)]) (fun (m_1 : Nat) (xs50 : List Int) (xs52 : List Int) (xs54 : List Int) (xs56 : List Int) (xs58 : List Bool) (xs60 : List Int) (x62 : Int) => [(some b3, .cells #[.int .i64 0, .int .i64 0, .int .i64 0, .slice none 0 0, .slice none 0 0, .slice none 0 0, .slice none 0 0, .slice none 0 0, .slice none 0 0] 32 (0, 0)), (some b19, .cells #[.int .i64 n0.N, .int .i64 n0.S, .int .i64 n0.T, .slice (sb ob10) n11 c12, .slice (some ⟨b23, 0, none⟩) ((r8.getD n0.N.toNat 0).toNat) ((r8.getD n0.N.toNat 0).toNat), .slice (some ⟨b26, 0, none⟩) ((r8.getD n0.N.toNat 0).toNat) ((r8.getD n0.N.toNat 0).toNat), .slice (some ⟨b29, 0, none⟩) ((r8.getD n0.N.toNat 0).toNat) ((r8.getD n0.N.toNat 0).toNat), .slice (some ⟨b32, 0, none⟩) ((r8.getD n0.N.toNat 0).toNat) ((r8.getD n0.N.toNat 0).toNat), .slice (some ⟨b35, 0, none⟩) ((r8.getD n0.N.toNat 0).toNat) ((r8.getD n0.N.toNat 0).toNat)] 32 (0, 0)), (ob10, .cells (arr (intC .i64) r8 j13).toArray 3 (0, 0)), (some b23, .cells (arr (intC .i64) xs50 ([])).toArray 3 (0, 0)), (some b26, .cells (arr (intC .i64) xs52 ([])).toArray 3 (0, 0)), (some b29, .cells (arr (intC .i64) xs54 ([])).toArray 2 (0, 0)), (some b32, .cells (arr (intC .i64) xs56 ([])).toArray 3 (0, 0)), (some b35, .cells (arr boolC xs58 ([])).toArray 4 (0, 0)), (some b48, .cells #[.slice (sb ob39) n40 c41] 27 (0, 0)), (ob39, .cells (arr (intC .i64) xs60 j42).toArray 3 (0, 0))]) (fun (m_1 : Nat) (xs50 : List Int) (xs52 : List Int) (xs54 : List Int) (xs56 : List Int) (xs58 : List Bool) (xs60 : List Int) (x62 : Int) => m_1) FUEL (List.replicate ((r8.getD n0.N.toNat 0).toNat) (0 : Int)) (List.replicate ((r8.getD n0.N.toNat 0).toNat) (0 : Int)) (List.replicate ((r8.getD n0.N.toNat 0).toNat) (0 : Int)) (List.replicate ((r8.getD n0.N.toNat 0).toNat) (0 : Int)) (List.replicate ((r8.getD n0.N.toNat 0).toNat) (false : Bool)) r37 0 ⟨e_1, List.length_replicate, List.length_replicate, List.length_replicate, List.length_replicate, List.length_replicate, hn43⟩ (AllF.cons rfl (AllF.cons rfl (AllF.cons rfl (AllF.cons rfl (AllF.cons rfl (AllF.cons rfl AllF.nil)))))) (Pick.cons tk3 (Pick.cons tk2 (Pick.cons tk3 (Pick.cons tk3 (Pick.cons tk3 (Pick.cons tk3 (Pick.cons tk3 (Pick.cons tk3 (Pick.cons tk0 (Pick.cons tk0 Pick.nil)))))))))) ?_
          rintro m_1 xs50 xs52 xs54 xs56 xs58 xs60 x62 ⟨H, hn51, hn53, hn55, hn57, hn59, hn61⟩
          obtain ⟨n_1, r_1, rfl, H, C_1⟩ := loopM_some H
          have H : m_csr_Make_s1 n0 r8 xs50 xs52 xs54 xs56 xs58 xs60 x62 = some r_1 := H
          unfold m_csr_Make_s1 at H
          refine T.seq ?_
          refine T.regionL (ll := [0]) rfl ?_
          refine TO.bin rfl rfl rfl rfl rfl rfl ?_
          refine TO.done ?_
          refine X.seq_normal ?_
          refine T.seq ?_
          rcases ite_some H with ⟨g63, H⟩ | ⟨g63, H⟩
          ·
            refine T.condPT rfl g63 ?_
            refine T.skip ?_
            refine X.seq_normal ?_
            refine T.seq ?_
            refine T.block ?_
            refine T.seq ?_
            obtain ⟨g64, H⟩ := gd_some H
            refine T.regionL (ll := [0, 1, 2, 3, 4, 5]) rfl ?_
            refine TO.move rfl rfl rfl rfl ?_
            refine TO.ixR h_n0f3 g64 rfl rfl rfl rfl rfl TWBS4.l22 TWBS4.n67 ?_
            refine TO.ldSR (cs := [.int .i64 ((n0.Arcs.getD x62.toNat default).fr), .int .i64 ((n0.Arcs.getD x62.toNat default).to), .int .i64 ((n0.Arcs.getD x62.toNat default).cap)]) default h_n0f3 g64 rfl rfl rfl rfl rfl TWBS4.a67 ?_
            refine TO.allocA rfl rfl rfl TWBS4.z67 ?_; intro b65
            refine TO.assign rfl rfl rfl rfl ?_
            refine TO.storeA rfl rfl rfl rfl tk0 TWBS4.n67 rfl rfl rfl ?_
            refine TO.done ?_
            refine X.seq_normal ?_
            refine T.seq ?_
            refine T.seq ?_
            refine T.regionL (ll := [0, 1, 2, 3, 4]) rfl ?_
            refine TO.fieldAddr0 rfl rfl rfl rfl TWBS4.f67_0 ?_
            refine TO.load1 rfl rfl rfl rfl TWBS4.s3 mm0 rfl ?_
            refine TO.fieldAddr0 rfl rfl rfl rfl TWBS4.f67_1 ?_
            refine TO.load1 rfl rfl rfl rfl TWBS4.s3 mm0 rfl ?_
            refine TO.bin rfl rfl rfl rfl rfl rfl ?_
            refine TO.done ?_
            refine X.seq_normal ?_
            refine T.trim (AllF.cons (t := 2) rfl (AllF.cons (t := 5) rfl (AllF.cons (t := 8) rfl (AllF.cons (t := 54) rfl (AllF.cons (t := 55) rfl (AllF.cons (t := 56) rfl (AllF.cons (t := 10) rfl (AllF.cons (t := 9) rfl (AllF.cons (t := 65) rfl AllF.nil))))))))) ?_
            rcases ite_some H with ⟨g67, H⟩ | ⟨g67, H⟩
            ·
              refine T.condPT rfl g67 ?_
              refine T.exit ?_
              refine X.then_exit ?_
              refine X.block_here ?_
              refine X.seq_normal ?_
              obtain ⟨g68, H⟩ := gd_some H
              refine T.regionL (ll := [0, 1]) rfl ?_
              refine TO.addG g68 rfl rfl rfl rfl rfl ?_
              refine TO.move rfl rfl rfl rfl ?_
              refine TO.done ?_
              have H := loop_next H C_1
              exact X.againE8 n_1 xs50 xs52 xs54 xs56 xs58 xs60 (x62 + 1) ⟨H, hn51, hn53, hn55, hn57, hn59, hn61⟩ (Nat.lt_succ_self _) (AllF.cons rfl (AllF.cons rfl (AllF.cons rfl (AllF.cons rfl (AllF.cons rfl (AllF.cons rfl AllF.nil)))))) (Pick.cons tk1 (Pick.cons tk1 (Pick.cons tk1 (Pick.cons tk1 (Pick.cons tk1 (Pick.cons tk1 (Pick.cons tk1 (Pick.cons tk1 (Pick.cons tk1 (Pick.cons tk1 Pick.nil))))))))))
            ·
              refine T.condPF rfl g67 ?_
              refine T.skip ?_
              refine X.seq_normal ?_
              refine T.seq ?_
              obtain ⟨⟨r69, r70, r71⟩, e72, H⟩ := bd_some H
              refine T.regionL (ll := [0, 1, 2, 3, 4, 5, 6, 7, 8, 9]) rfl ?_
              refine TO.move rfl rfl rfl rfl ?_
              refine TO.fieldAddr0 rfl rfl rfl rfl TWBS4.f67_0 ?_
              refine TO.load1 rfl rfl rfl rfl TWBS4.s3 mm0 rfl ?_
              refine TO.fieldAddr0 rfl rfl rfl rfl TWBS4.f67_1 ?_
              refine TO.load1 rfl rfl rfl rfl TWBS4.s3 mm0 rfl ?_
              refine TO.fieldAddr0 rfl rfl rfl rfl TWBS4.f67_2 ?_
              refine TO.load1 rfl rfl rfl rfl TWBS4.s2 mm0 rfl ?_
              refine TO.move rfl rfl rfl rfl ?_
              refine TO.callVXM TWBS4.c86 rfl rfl rfl rfl rfl (Take.gone tk9 (Take.gone tk9 (Take.gone tk2 (Take.gone tk3 (Take.gone tk4 (Take.gone tk4 (Take.gone tk4 (Gone.refl _)))))))) rfl (fun wc hwc => w_csr_Make_1 (from0 := (n0.Arcs.getD x62.toNat default).fr) (to1 := (n0.Arcs.getD x62.toNat default).to) (most2 := (n0.Arcs.getD x62.toNat default).cap) (arc3 := x62) (back4 := false) (c5 := xs60) (c6 := (Csr.mk n0.N n0.S n0.T r8 xs50 xs52 xs54 xs56 xs58)) wc (hwc.self (Pick.cons tk9 (Pick.cons tk9 (Pick.cons tk2 (Pick.cons tk3 (Pick.cons tk4 (Pick.cons tk4 (Pick.cons tk4 Pick.nil))))))) rfl) hn61 hc44 hj45 hz46 (hwc.rsM (f := (intC .i64)) (s := 1) (xs := r8) (j := j13) (fun _ => rfl) (Take.gone tk9 (Take.gone tk9 (Take.gone tk2 (Take.gone tk3 (Take.gone tk4 (Take.gone tk4 (Take.gone tk4 (Gone.refl _)))))))) rfl mm2 hn14 hc15 hz17) hn51 (Nat.le_refl _) (zeroJ _ _) someZ (hwc.rsM (f := (intC .i64)) (s := 1) (xs := xs52) (j := ([])) (fun _ => rfl) (Take.gone tk9 (Take.gone tk9 (Take.gone tk2 (Take.gone tk3 (Take.gone tk4 (Take.gone tk4 (Take.gone tk4 (Gone.refl _)))))))) rfl mm3 hn53 (Nat.le_refl _) someZ) hn55 (Nat.le_refl _) (zeroJ _ _) someZ hn57 (Nat.le_refl _) (zeroJ _ _) someZ hn59 (Nat.le_refl _) (zeroJ _ _) someZ e72) ?_
              rintro _ _ ⟨rfl, rfl, hn73, hn74, hn75, hn76, hn77⟩
              refine TO.assign rfl rfl rfl rfl ?_
              refine TO.done ?_
              refine X.seq_normal ?_
              refine T.trim (AllF.cons (t := 2) rfl (AllF.cons (t := 5) rfl (AllF.cons (t := 8) rfl (AllF.cons (t := 54) rfl (AllF.cons (t := 55) rfl (AllF.cons (t := 56) rfl (AllF.cons (t := 10) rfl (AllF.cons (t := 9) rfl (AllF.cons (t := 11) rfl AllF.nil))))))))) ?_
              refine T.seq ?_
              obtain ⟨⟨r78, r79, r80⟩, e81, H⟩ := bd_some H
              refine T.regionL (ll := [0, 1, 2, 3, 4, 5, 6, 7]) rfl ?_
              refine TO.move rfl rfl rfl rfl ?_
              refine TO.fieldAddr0 rfl rfl rfl rfl TWBS4.f67_1 ?_
              refine TO.load1 rfl rfl rfl rfl TWBS4.s3 mm7 rfl ?_
              refine TO.fieldAddr0 rfl rfl rfl rfl TWBS4.f67_0 ?_
              refine TO.load1 rfl rfl rfl rfl TWBS4.s3 mm7 rfl ?_
              refine TO.move rfl rfl rfl rfl ?_
              refine TO.callVXM TWBS4.c86 rfl rfl rfl rfl rfl (Take.gone tk0 (Take.gone tk0 (Take.gone tk0 (Take.gone tk0 (Take.gone tk0 (Take.gone tk0 (Take.gone tk0 (Gone.refl _)))))))) rfl (fun wc hwc => w_csr_Make_1 (from0 := (n0.Arcs.getD x62.toNat default).to) (to1 := (n0.Arcs.getD x62.toNat default).fr) (most2 := 0) (arc3 := x62) (back4 := true) (c5 := r70) (c6 := (Csr.mk n0.N n0.S n0.T r8 r71.Head xs52 r71.Cap r71.Arc r71.Back)) wc (hwc.self (Pick.cons tk0 (Pick.cons tk0 (Pick.cons tk0 (Pick.cons tk0 (Pick.cons tk0 (Pick.cons tk0 (Pick.cons tk0 Pick.nil))))))) rfl) hn73 hc44 hj45 hz46 (hwc.rsM (f := (intC .i64)) (s := 1) (xs := r8) (j := j13) (fun _ => rfl) (Take.gone tk0 (Take.gone tk0 (Take.gone tk0 (Take.gone tk0 (Take.gone tk0 (Take.gone tk0 (Take.gone tk0 (Gone.refl _)))))))) rfl mm2 hn14 hc15 hz17) hn74 (Nat.le_refl _) (zeroJ _ _) someZ (hwc.rsM (f := (intC .i64)) (s := 1) (xs := xs52) (j := ([])) (fun _ => rfl) (Take.gone tk0 (Take.gone tk0 (Take.gone tk0 (Take.gone tk0 (Take.gone tk0 (Take.gone tk0 (Take.gone tk0 (Gone.refl _)))))))) rfl mm3 hn53 (Nat.le_refl _) someZ) hn75 (Nat.le_refl _) (zeroJ _ _) someZ hn76 (Nat.le_refl _) (zeroJ _ _) someZ hn77 (Nat.le_refl _) (zeroJ _ _) someZ e81) ?_
              rintro _ _ ⟨rfl, rfl, hn82, hn83, hn84, hn85, hn86⟩
              refine TO.assign rfl rfl rfl rfl ?_
              refine TO.done ?_
              refine X.seq_normal ?_
              refine T.trim (AllF.cons (t := 2) rfl (AllF.cons (t := 5) rfl (AllF.cons (t := 8) rfl (AllF.cons (t := 54) rfl (AllF.cons (t := 55) rfl (AllF.cons (t := 56) rfl (AllF.cons (t := 11) rfl (AllF.cons (t := 12) rfl AllF.nil)))))))) ?_
              obtain ⟨g87, H⟩ := gd_some H
              obtain ⟨g88, H⟩ := gd_some H
              apply T.drawL [⟨[], false, [], relV _⟩, ⟨[0], false, [], relV _⟩, ⟨[], false, [], relV _⟩, ⟨[], false, [], relV _⟩, ⟨[3], false, [], relV _⟩, ⟨[], false, [], relV _⟩, ⟨[], false, [], relV _⟩, ⟨[], false, [], relV _⟩, ⟨[1, 2], false, [], relV _⟩, ⟨[1, 2, 6, 8], true, [], relN⟩] [82, 83, 84, 85, 86, 87, 88, 89, 90] 10 (HRk [[(some b26, .cells (arr (intC .i64) xs52 ([])).toArray 3 (0, 0))], [(some b26, .cells (arr (intC .i64) (xs52.set r69.toNat r78) ([])).toArray 3 (0, 0))]]) [[], []] [(some b26, .cells (arr (intC .i64) xs52 ([])).toArray 3 (0, 0))] [(some b48, .cells #[.slice (sb ob39) n40 c41] 27 (0, 0)), (ob39, .cells (arr (intC .i64) r79 j42).toArray 3 (0, 0)), (some b19, .cells #[.int .i64 n0.N, .int .i64 n0.S, .int .i64 n0.T, .slice (sb ob10) n11 c12, .slice (some ⟨b23, 0, none⟩) ((r8.getD n0.N.toNat 0).toNat) ((r8.getD n0.N.toNat 0).toNat), .slice (some ⟨b26, 0, none⟩) ((r8.getD n0.N.toNat 0).toNat) ((r8.getD n0.N.toNat 0).toNat), .slice (some ⟨b29, 0, none⟩) ((r8.getD n0.N.toNat 0).toNat) ((r8.getD n0.N.toNat 0).toNat), .slice (some ⟨b32, 0, none⟩) ((r8.getD n0.N.toNat 0).toNat) ((r8.getD n0.N.toNat 0).toNat), .slice (some ⟨b35, 0, none⟩) ((r8.getD n0.N.toNat 0).toNat) ((r8.getD n0.N.toNat 0).toNat)] 32 (0, 0)), (some b23, .cells (arr (intC .i64) r80.Head ([])).toArray 3 (0, 0)), (some b29, .cells (arr (intC .i64) r80.Cap ([])).toArray 2 (0, 0)), (some b32, .cells (arr (intC .i64) r80.Arc ([])).toArray 3 (0, 0)), (some b35, .cells (arr boolC r80.Back ([])).toArray 4 (0, 0)), (some b65, .cells #[.int .i64 ((n0.Arcs.getD x62.toNat default).fr), .int .i64 ((n0.Arcs.getD x62.toNat default).to), .int .i64 ((n0.Arcs.getD x62.toNat default).cap)] 67 (0, 0)), (some b3, .cells #[.int .i64 0, .int .i64 0, .int .i64 0, .slice none 0 0, .slice none 0 0, .slice none 0 0, .slice none 0 0, .slice none 0 0, .slice none 0 0] 32 (0, 0)), (ob10, .cells (arr (intC .i64) r8 j13).toArray 3 (0, 0))]
              · exact mixed
              · exact rfl
              · kernel_rfl
              · kernel_rfl
              · kernel_rfl
              · exact rfl
              · exact rfl
              · exact rfl
              · exact rfl
              · exact (by repeat (first | exact Pick.refl _ | exact Pick.nil | apply Pick.none | refine Pick.cons (by repeat (first | exact Take.head _ _ | apply Take.tail)) ?_))
              · refine ⟨?_, ?_, ?_, ?_, ?_, ?_, ?_, ?_, ?_, ?_, trivial⟩
                · rintro vs es Es Hx -
                  refine TO.reenv (D := []) rfl ?_
                  refine TO.fieldAddr0 rfl rfl rfl rfl TWBS4.f32_5 ?_
                  refine TO.done ?_; exact X.obQ rfl ⟨rfl, rfl⟩ (Pick.refl _) rfl
                · rintro vs es Es Hx ⟨⟨h_0, e_0⟩, -⟩
                  refine TO.reenv (D := [(82, vs 0)]) rfl ?_; rw [h_0]
                  refine TO.load1 rfl rfl rfl rfl TWBS4.s27 mm2 rfl ?_
                  refine TO.done ?_; exact X.obQ rfl ⟨rfl, rfl⟩ (Pick.refl _) (by show [(82, vs 0)] = _; rw [h_0])
                · rintro vs es Es Hx -
                  refine TO.reenv (D := []) rfl ?_
                  refine TO.move rfl rfl rfl rfl ?_
                  refine TO.done ?_; exact X.obQ rfl ⟨rfl, rfl⟩ (Pick.refl _) rfl
                · rintro vs es Es Hx -
                  refine TO.reenv (D := []) rfl ?_
                  refine TO.fieldAddr0 rfl rfl rfl rfl TWBS4.f32_5 ?_
                  refine TO.done ?_; exact X.obQ rfl ⟨rfl, rfl⟩ (Pick.refl _) rfl
                · rintro vs es Es Hx ⟨⟨h_3, e_3⟩, -⟩
                  refine TO.reenv (D := [(85, vs 3)]) rfl ?_; rw [h_3]
                  refine TO.load1 rfl rfl rfl rfl TWBS4.s27 mm2 rfl ?_
                  refine TO.done ?_; exact X.obQ rfl ⟨rfl, rfl⟩ (Pick.refl _) (by show [(85, vs 3)] = _; rw [h_3])
                · rintro vs es Es Hx -
                  refine TO.reenv (D := []) rfl ?_
                  refine TO.move rfl rfl rfl rfl ?_
                  refine TO.done ?_; exact X.obQ rfl ⟨rfl, rfl⟩ (Pick.refl _) rfl
                · rintro vs es Es Hx -
                  refine TO.reenv (D := []) rfl ?_
                  refine TO.move rfl rfl rfl rfl ?_
                  refine TO.done ?_; exact X.obQ rfl ⟨rfl, rfl⟩ (Pick.refl _) rfl
                · rintro vs es Es Hx -
                  refine TO.reenv (D := []) rfl ?_
                  refine TO.move rfl rfl rfl rfl ?_
                  refine TO.done ?_; exact X.obQ rfl ⟨rfl, rfl⟩ (Pick.refl _) rfl
                · rintro vs es Es Hx ⟨⟨h_1, e_1⟩, ⟨h_2, e_2⟩, -⟩
                  refine TO.reenv (D := [(83, vs 1), (84, vs 2)]) rfl ?_; rw [h_1, h_2]
                  refine TO.ix1 hn53 g87 rfl rfl rfl rfl rfl TWBS4.l27 TWBS4.n3 ?_
                  refine TO.done ?_; exact X.obQ rfl ⟨rfl, rfl⟩ (Pick.refl _) (by show [(83, vs 1), (84, vs 2)] = _; rw [h_1, h_2])
                · rintro vs es Es Hx hb ⟨⟨h_1, e_1⟩, ⟨h_2, e_2⟩, ⟨h_6, e_6⟩, ⟨h_8, e_8⟩, -⟩ hHR
                  obtain rfl : hb = [(some b26, .cells (arr (intC .i64) xs52 ([])).toArray 3 (0, 0))] := hHR
                  refine TO.reenv (D := [(83, vs 1), (84, vs 2), (88, vs 6), (90, vs 8)]) rfl ?_; rw [h_1, h_2, h_6, h_8]
                  refine TO.stIO g87 rfl rfl rfl rfl tk0 TWBS4.n3 ?_
                  refine TO.done ?_; exact X.obE (hb' := [(some b26, .cells (arr (intC .i64) (xs52.set r69.toNat r78) ([])).toArray 3 (0, 0))]) rfl rfl rfl (by repeat (first | exact Pick.refl _ | exact Pick.nil | apply Pick.none | refine Pick.cons (by repeat (first | exact Take.head _ _ | apply Take.tail)) ?_)) (by show [(83, vs 1), (84, vs 2), (88, vs 6), (90, vs 8)] = _; rw [h_1, h_2, h_6, h_8])
              · rintro vs es hb ⟨⟨h_0, e_0⟩, ⟨h_1, e_1⟩, ⟨h_2, e_2⟩, ⟨h_3, e_3⟩, ⟨h_4, e_4⟩, ⟨h_5, e_5⟩, ⟨h_6, e_6⟩, ⟨h_7, e_7⟩, ⟨h_8, e_8⟩, e_9, -⟩ hHR
                obtain rfl : hb = [(some b26, .cells (arr (intC .i64) (xs52.set r69.toNat r78) ([])).toArray 3 (0, 0))] := hHR
                refine TO.reenv (D := [(82, vs 0), (83, vs 1), (84, vs 2), (85, vs 3), (86, vs 4), (87, vs 5), (88, vs 6), (89, vs 7), (90, vs 8)]) rfl ?_
                refine TO.reheap (H := [(some b26, .cells (arr (intC .i64) (xs52.set r69.toNat r78) ([])).toArray 3 (0, 0)), (some b48, .cells #[.slice (sb ob39) n40 c41] 27 (0, 0)), (ob39, .cells (arr (intC .i64) r79 j42).toArray 3 (0, 0)), (some b19, .cells #[.int .i64 n0.N, .int .i64 n0.S, .int .i64 n0.T, .slice (sb ob10) n11 c12, .slice (some ⟨b23, 0, none⟩) ((r8.getD n0.N.toNat 0).toNat) ((r8.getD n0.N.toNat 0).toNat), .slice (some ⟨b26, 0, none⟩) ((r8.getD n0.N.toNat 0).toNat) ((r8.getD n0.N.toNat 0).toNat), .slice (some ⟨b29, 0, none⟩) ((r8.getD n0.N.toNat 0).toNat) ((r8.getD n0.N.toNat 0).toNat), .slice (some ⟨b32, 0, none⟩) ((r8.getD n0.N.toNat 0).toNat) ((r8.getD n0.N.toNat 0).toNat), .slice (some ⟨b35, 0, none⟩) ((r8.getD n0.N.toNat 0).toNat) ((r8.getD n0.N.toNat 0).toNat)] 32 (0, 0)), (some b23, .cells (arr (intC .i64) r80.Head ([])).toArray 3 (0, 0)), (some b29, .cells (arr (intC .i64) r80.Cap ([])).toArray 2 (0, 0)), (some b32, .cells (arr (intC .i64) r80.Arc ([])).toArray 3 (0, 0)), (some b35, .cells (arr boolC r80.Back ([])).toArray 4 (0, 0)), (some b65, .cells #[.int .i64 ((n0.Arcs.getD x62.toNat default).fr), .int .i64 ((n0.Arcs.getD x62.toNat default).to), .int .i64 ((n0.Arcs.getD x62.toNat default).cap)] 67 (0, 0)), (some b3, .cells #[.int .i64 0, .int .i64 0, .int .i64 0, .slice none 0 0, .slice none 0 0, .slice none 0 0, .slice none 0 0, .slice none 0 0, .slice none 0 0] 32 (0, 0)), (ob10, .cells (arr (intC .i64) r8 j13).toArray 3 (0, 0))]) (by show _ ++ (_ ++ (es 0 ++ (es 1 ++ (es 2 ++ (es 3 ++ (es 4 ++ (es 5 ++ (es 6 ++ (es 7 ++ (es 8 ++ (es 9 ++ ([])))))))))))) = _; rw [e_0, e_1, e_2, e_3, e_4, e_5, e_6, e_7, e_8, e_9]; rfl) ?_
                rw [h_0, h_1, h_2, h_3, h_4, h_5, h_6, h_7, h_8]
                clear h_8 h_7 h_6 h_5 h_4 h_3 h_2 h_1 h_0 e_0 e_1 e_2 e_3 e_4 e_5 e_6 e_7 e_8 e_9
                refine TO.ix1 (List.length_set.trans hn53) g88 rfl rfl rfl rfl rfl TWBS4.l27 TWBS4.n3 ?_
                refine TO.stIO g88 rfl rfl rfl rfl tk0 TWBS4.n3 ?_
                refine TO.done ?_
                refine X.block_normal ?_
                refine X.seq_normal ?_
                refine T.trim (AllF.cons (t := 2) rfl (AllF.cons (t := 5) rfl (AllF.cons (t := 8) rfl (AllF.cons (t := 54) rfl (AllF.cons (t := 55) rfl (AllF.cons (t := 56) rfl AllF.nil)))))) ?_
                obtain ⟨g89, H⟩ := gd_some H
                refine T.regionL (ll := [0, 1]) rfl ?_
                refine TO.addG g89 rfl rfl rfl rfl rfl ?_
                refine TO.move rfl rfl rfl rfl ?_
                refine TO.done ?_
                have H := loop_next H C_1
                exact X.againE8 n_1 r80.Head ((xs52.set r69.toNat r78).set r78.toNat r69) r80.Cap r80.Arc r80.Back r79 (x62 + 1) ⟨H, hn83, (List.length_set.trans (List.length_set.trans hn53)), hn84, hn85, hn86, hn82⟩ (Nat.lt_succ_self _) (AllF.cons rfl (AllF.cons rfl (AllF.cons rfl (AllF.cons rfl (AllF.cons rfl (AllF.cons rfl AllF.nil)))))) (Pick.cons tk9 (Pick.cons tk3 (Pick.cons tk8 (Pick.cons tk3 (Pick.cons tk0 (Pick.cons tk2 (Pick.cons tk2 (Pick.cons tk2 (Pick.cons tk0 (Pick.cons tk0 Pick.nil))))))))))
          ·
            refine T.condPF rfl g63 ?_
            refine T.exit ?_
            refine X.then_exit ?_
            have H := loop_exitE H C_1 ▸ K_1
            refine X.then_exit ?_
            refine X.block_here ?_
            exact X.metE5 xs50 xs52 xs54 xs56 xs58 ⟨H, hn51, hn53, hn55, hn57, hn59⟩ (AllF.cons rfl (AllF.cons rfl AllF.nil)) (Pick.cons tk0 (Pick.cons tk0 (Pick.cons tk0 (Pick.cons tk0 (Pick.cons tk0 (Pick.cons tk0 (Pick.cons tk0 (Pick.cons tk0 Pick.nil))))))))
        · rintro xs90 xs92 xs94 xs96 xs98 ⟨H, hn91, hn93, hn95, hn97, hn99⟩
          unfold m_csr_Make_j2 at H
          refine T.seq ?_
          refine T.regionL (ll := [0, 1, 2]) rfl ?_
          refine TO.loadA rfl rfl rfl rfl TWBS4.a32 mm1 rfl ?_
          refine TO.storeA rfl rfl rfl rfl tk0 TWBS4.n32 rfl rfl rfl ?_
          refine TO.assign rfl rfl rfl rfl ?_
          refine TO.done ?_
          refine X.seq_normal ?_
          refine T.ret ?_
          obtain ⟨rfl, rfl⟩ := ret2 H
          exact X.ret2 rfl rfl rfl rfl (Res.cellA rfl TWBS4.a32 mm0 rfl) (Res.tmp rfl) (Pick.cons tk2 (Pick.cons tk2 (Pick.cons tk2 (Pick.cons tk2 (Pick.cons tk2 (Pick.cons tk2 Pick.nil)))))) ⟨ob10, n11, c12, j13, (some b23), ((r8.getD n0.N.toNat 0).toNat), ((r8.getD n0.N.toNat 0).toNat), ([]), (some b26), ((r8.getD n0.N.toNat 0).toNat), ((r8.getD n0.N.toNat 0).toNat), ([]), (some b29), ((r8.getD n0.N.toNat 0).toNat), ((r8.getD n0.N.toNat 0).toNat), ([]), (some b32), ((r8.getD n0.N.toNat 0).toNat), ((r8.getD n0.N.toNat 0).toNat), ([]), (some b35), ((r8.getD n0.N.toNat 0).toNat), ((r8.getD n0.N.toNat 0).toNat), ([]), rfl, rfl, hn14, hc15, hj16, hz17, hn91, (Nat.le_refl _), (zeroJ _ _), someZ, hn93, (Nat.le_refl _), (zeroJ _ _), someZ, hn95, (Nat.le_refl _), (zeroJ _ _), someZ, hn97, (Nat.le_refl _), (zeroJ _ _), someZ, hn99, (Nat.le_refl _), (zeroJ _ _), someZ⟩
/-- acequia/csr.Len -/
theorem w_csr_Len {c0 : Csr} {c0f3_b : Option Addr} {c0f3_n : Nat} {c0f3_c : Nat} {c0f4_b : Option Addr} {c0f4_n : Nat} {c0f4_c : Nat} {c0f5_b : Option Addr} {c0f5_n : Nat} {c0f5_c : Nat} {c0f6_b : Option Addr} {c0f6_n : Nat} {c0f6_c : Nat} {c0f7_b : Option Addr} {c0f7_n : Nat} {c0f7_c : Nat} {c0f8_b : Option Addr} {c0f8_n : Nat} {c0f8_c : Nat} (w : World) (h_c0f3 : RS w [] (intC .i64) 1 c0f3_b c0f3_n c0f3_c c0.First) (h_c0f4 : RS w [] (intC .i64) 1 c0f4_b c0f4_n c0f4_c c0.Head) (h_c0f5 : RS w [] (intC .i64) 1 c0f5_b c0f5_n c0f5_c c0.Rev) (h_c0f6 : RS w [] (intC .i64) 1 c0f6_b c0f6_n c0f6_c c0.Cap) (h_c0f7 : RS w [] (intC .i64) 1 c0f7_b c0f7_n c0f7_c c0.Arc) (h_c0f8 : RS w [] boolC 1 c0f8_b c0f8_n c0f8_c c0.Back) {r0 : Int} (H : m_csr_Len c0 = some r0) : Fnc Try.prog 75 #[.agg #[.int .i64 c0.N, .int .i64 c0.S, .int .i64 c0.T, .slice c0f3_b c0f3_n c0f3_c, .slice c0f4_b c0f4_n c0f4_c, .slice c0f5_b c0f5_n c0f5_c, .slice c0f6_b c0f6_n c0f6_c, .slice c0f7_b c0f7_n c0f7_c, .slice c0f8_b c0f8_n c0f8_c]] w [] (fun v N => v = .int .i64 r0 ∧ N = []) := by
  unfold m_csr_Len at H
  refine Fnc.enter (vs := [.agg #[.int .i64 c0.N, .int .i64 c0.S, .int .i64 c0.T, .slice c0f3_b c0f3_n c0f3_c, .slice c0f4_b c0f4_n c0f4_c, .slice c0f5_b c0f5_n c0f5_c, .slice c0f6_b c0f6_n c0f6_c, .slice c0f7_b c0f7_n c0f7_c, .slice c0f8_b c0f8_n c0f8_c]]) Try.func75 rfl rfl (Inv.refl w) ?_
  refine T.seq ?_
  refine T.regionL (ll := [0, 1]) rfl ?_
  refine TO.boxA rfl rfl rfl rfl ?_; intro b1
  refine TO.assign rfl rfl rfl rfl ?_
  refine TO.done ?_
  refine X.seq_normal ?_
  refine T.seq ?_
  refine T.regionL (ll := [0, 1, 2, 3]) rfl ?_
  refine TO.fieldAddr0 rfl rfl rfl rfl TWBS4.f32_4 ?_
  refine TO.load1 rfl rfl rfl rfl TWBS4.s27 mm0 rfl ?_
  refine TO.lenX (xs := c0.Head) h_c0f4.len rfl rfl rfl rfl rfl TWBS4.l27 ?_
  refine TO.assign rfl rfl rfl rfl ?_
  refine TO.done ?_
  refine X.seq_normal ?_
  refine T.ret ?_
  obtain rfl := ret1 H
  exact X.ret1 rfl rfl rfl rfl (Res.tmp rfl) Pick.nil ⟨rfl, rfl⟩
end Go.Proofs.Ytjeenmabclghoaa.Ax
