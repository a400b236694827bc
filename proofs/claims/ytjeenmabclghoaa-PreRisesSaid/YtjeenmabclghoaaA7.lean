/- Texts of this claim, one behind the other. -/
import Derived.Test.YtjeenmabclghoaaA2
import Derived.Test.YtjeenmabclghoaaA6
import Derived.Test.YtjeenmabclghoaaA1
namespace Go.Proofs.Ytjeenmabclghoaa.Ax
open Go Go.Acq Go.RowKit Go.Proofs
set_option linter.unusedVariables false
set_option linter.unusedSimpArgs false
set_option maxHeartbeats 8000000
set_option maxRecDepth 20000
theorem TWBLPreRises.a24 : aggT Try.prog 24 4 = true := by kernel_rfl
theorem TWBLPreRises.a29 : aggT Try.prog 29 3 = true := by kernel_rfl
theorem TWBLPreRises.a32 : aggT Try.prog 32 9 = true := by kernel_rfl
theorem TWBLPreRises.c16 : callable Try.prog 16 = true := by kernel_rfl
theorem TWBLPreRises.c17 : callable Try.prog 17 = true := by kernel_rfl
theorem TWBLPreRises.c23 : callable Try.prog 23 = true := by kernel_rfl
theorem TWBLPreRises.c28 : callable Try.prog 28 = true := by kernel_rfl
theorem TWBLPreRises.c30 : callable Try.prog 30 = true := by kernel_rfl
theorem TWBLPreRises.c33 : callable Try.prog 33 = true := by kernel_rfl
theorem TWBLPreRises.c34 : callable Try.prog 34 = true := by kernel_rfl
theorem TWBLPreRises.c37 : callable Try.prog 37 = true := by kernel_rfl
theorem TWBLPreRises.c38 : callable Try.prog 38 = true := by kernel_rfl
theorem TWBLPreRises.c39 : callable Try.prog 39 = true := by kernel_rfl
theorem TWBLPreRises.c51 : callable Try.prog 51 = true := by kernel_rfl
theorem TWBLPreRises.f29_0 : fieldT Try.prog 29 0 = some 0 := by kernel_rfl
theorem TWBLPreRises.f29_1 : fieldT Try.prog 29 1 = some 1 := by kernel_rfl
theorem TWBLPreRises.f29_2 : fieldT Try.prog 29 2 = some 2 := by kernel_rfl
theorem TWBLPreRises.f32_0 : fieldT Try.prog 32 0 = some 0 := by kernel_rfl
theorem TWBLPreRises.i3 : intT Try.prog 3 = some .i64 := by kernel_rfl
theorem TWBLPreRises.l25 : sliceT Try.prog 25 = some 5 := by kernel_rfl
theorem TWBLPreRises.l26 : sliceT Try.prog 26 = some 2 := by kernel_rfl
theorem TWBLPreRises.l27 : sliceT Try.prog 27 = some 3 := by kernel_rfl
theorem TWBLPreRises.n2 : sizeT Try.prog 2 = some 1 := by kernel_rfl
theorem TWBLPreRises.n24 : sizeT Try.prog 24 = some 4 := by kernel_rfl
theorem TWBLPreRises.n29 : sizeT Try.prog 29 = some 3 := by kernel_rfl
theorem TWBLPreRises.n3 : sizeT Try.prog 3 = some 1 := by kernel_rfl
theorem TWBLPreRises.n32 : sizeT Try.prog 32 = some 9 := by kernel_rfl
theorem TWBLPreRises.n4 : sizeT Try.prog 4 = some 1 := by kernel_rfl
theorem TWBLPreRises.n5 : sizeT Try.prog 5 = some 1 := by kernel_rfl
theorem TWBLPreRises.o5 : (Try.prog.underlying 5).isSome = true := by kernel_rfl
theorem TWBLPreRises.s2 : scalT Try.prog 2 = true := by kernel_rfl
theorem TWBLPreRises.s26 : scalT Try.prog 26 = true := by kernel_rfl
theorem TWBLPreRises.s27 : scalT Try.prog 27 = true := by kernel_rfl
theorem TWBLPreRises.s3 : scalT Try.prog 3 = true := by kernel_rfl
theorem TWBLPreRises.s4 : scalT Try.prog 4 = true := by kernel_rfl
theorem TWBLPreRises.s5 : scalT Try.prog 5 = true := by kernel_rfl
theorem TWBLPreRises.z29 : zeroT Try.prog 29 = some (.agg #[.slice none 0 0, .slice none 0 0, .slice none 0 0]) := by kernel_rfl
theorem TWBLPreRises.z32 : zeroT Try.prog 32 = some (.agg #[.int .i64 0, .int .i64 0, .int .i64 0, .slice none 0 0, .slice none 0 0, .slice none 0 0, .slice none 0 0, .slice none 0 0, .slice none 0 0]) := by kernel_rfl
theorem TWBLPreRises.z4 : zeroT Try.prog 4 = some (.bool false) := by kernel_rfl

/-- acequia/acequialaw07.PreRises$1 -/
theorem w_acequialaw07_PreRises_1 {c0 : Csr} {was1 : Pre} {p2 : Pre} {c3 : Bool} {c0f3_b : Option Addr} {c0f3_n : Nat} {c0f3_c : Nat} {c0f4_b : Option Addr} {c0f4_n : Nat} {c0f4_c : Nat} {c0f5_b : Option Addr} {c0f5_n : Nat} {c0f5_c : Nat} {c0f6_b : Option Addr} {c0f6_n : Nat} {c0f6_c : Nat} {c0f7_b : Option Addr} {c0f7_n : Nat} {c0f7_c : Nat} {c0f8_b : Option Addr} {c0f8_n : Nat} {c0f8_c : Nat} {was1f0_b : Option Addr} {was1f0_n : Nat} {was1f0_c : Nat} {was1f1_b : Option Addr} {was1f1_n : Nat} {was1f1_c : Nat} {was1f2_b : Option Addr} {was1f2_n : Nat} {was1f2_c : Nat} {p2f0_b : Option Addr} {p2f0_n : Nat} {p2f0_c : Nat} {p2f1_b : Option Addr} {p2f1_n : Nat} {p2f1_c : Nat} {p2f2_b : Option Addr} {p2f2_n : Nat} {p2f2_c : Nat} {c3_k : Nat} (w : World) (hin : Inv w (([(some c3_k, .cells #[.bool c3] 4 (0, 0))] : Heap).filterMap (·.1)) w [(some c3_k, .cells #[.bool c3] 4 (0, 0))]) (h_c0f3 : RS w (([(some c3_k, .cells #[.bool c3] 4 (0, 0))] : Heap).filterMap (·.1)) (intC .i64) 1 c0f3_b c0f3_n c0f3_c c0.First) (h_c0f4 : RS w (([(some c3_k, .cells #[.bool c3] 4 (0, 0))] : Heap).filterMap (·.1)) (intC .i64) 1 c0f4_b c0f4_n c0f4_c c0.Head) (h_c0f5 : RS w (([(some c3_k, .cells #[.bool c3] 4 (0, 0))] : Heap).filterMap (·.1)) (intC .i64) 1 c0f5_b c0f5_n c0f5_c c0.Rev) (h_c0f6 : RS w (([(some c3_k, .cells #[.bool c3] 4 (0, 0))] : Heap).filterMap (·.1)) (intC .i64) 1 c0f6_b c0f6_n c0f6_c c0.Cap) (h_c0f7 : RS w (([(some c3_k, .cells #[.bool c3] 4 (0, 0))] : Heap).filterMap (·.1)) (intC .i64) 1 c0f7_b c0f7_n c0f7_c c0.Arc) (h_c0f8 : RS w (([(some c3_k, .cells #[.bool c3] 4 (0, 0))] : Heap).filterMap (·.1)) boolC 1 c0f8_b c0f8_n c0f8_c c0.Back) (h_was1f0 : RS w (([(some c3_k, .cells #[.bool c3] 4 (0, 0))] : Heap).filterMap (·.1)) (intC .i64) 1 was1f0_b was1f0_n was1f0_c was1.Res) (h_was1f1 : RS w (([(some c3_k, .cells #[.bool c3] 4 (0, 0))] : Heap).filterMap (·.1)) (intC .i64) 1 was1f1_b was1f1_n was1f1_c was1.Ex) (h_was1f2 : RS w (([(some c3_k, .cells #[.bool c3] 4 (0, 0))] : Heap).filterMap (·.1)) (intC .i64) 1 was1f2_b was1f2_n was1f2_c was1.H) (h_p2f0 : RS w (([(some c3_k, .cells #[.bool c3] 4 (0, 0))] : Heap).filterMap (·.1)) (intC .i64) 1 p2f0_b p2f0_n p2f0_c p2.Res) (h_p2f1 : RS w (([(some c3_k, .cells #[.bool c3] 4 (0, 0))] : Heap).filterMap (·.1)) (intC .i64) 1 p2f1_b p2f1_n p2f1_c p2.Ex) (h_p2f2 : RS w (([(some c3_k, .cells #[.bool c3] 4 (0, 0))] : Heap).filterMap (·.1)) (intC .i64) 1 p2f2_b p2f2_n p2f2_c p2.H) {r0 : Bool} {o0 : Bool} (H : m_acequialaw07_PreRises_1 c0 was1 p2 c3 = some (r0, o0)) : Fnc Try.prog 38 #[.agg #[.int .i64 c0.N, .int .i64 c0.S, .int .i64 c0.T, .slice c0f3_b c0f3_n c0f3_c, .slice c0f4_b c0f4_n c0f4_c, .slice c0f5_b c0f5_n c0f5_c, .slice c0f6_b c0f6_n c0f6_c, .slice c0f7_b c0f7_n c0f7_c, .slice c0f8_b c0f8_n c0f8_c], .agg #[.slice was1f0_b was1f0_n was1f0_c, .slice was1f1_b was1f1_n was1f1_c, .slice was1f2_b was1f2_n was1f2_c], .agg #[.slice p2f0_b p2f0_n p2f0_c, .slice p2f1_b p2f1_n p2f1_c, .slice p2f2_b p2f2_n p2f2_c], .pointer (some ⟨c3_k, 0, none⟩)] w (([(some c3_k, .cells #[.bool c3] 4 (0, 0))] : Heap).filterMap (·.1)) (fun v N => v = .bool r0 ∧ N = [(some c3_k, .cells #[.bool o0] 4 (0, 0))]) := by
  unfold m_acequialaw07_PreRises_1 at H
  refine Fnc.enter (vs := [.agg #[.int .i64 c0.N, .int .i64 c0.S, .int .i64 c0.T, .slice c0f3_b c0f3_n c0f3_c, .slice c0f4_b c0f4_n c0f4_c, .slice c0f5_b c0f5_n c0f5_c, .slice c0f6_b c0f6_n c0f6_c, .slice c0f7_b c0f7_n c0f7_c, .slice c0f8_b c0f8_n c0f8_c], .agg #[.slice was1f0_b was1f0_n was1f0_c, .slice was1f1_b was1f1_n was1f1_c, .slice was1f2_b was1f2_n was1f2_c], .agg #[.slice p2f0_b p2f0_n p2f0_c, .slice p2f1_b p2f1_n p2f1_c, .slice p2f2_b p2f2_n p2f2_c], .pointer (some ⟨c3_k, 0, none⟩)]) Try.func38 rfl rfl hin ?_
  refine T.seq ?_
  refine T.regionL (ll := [0, 1, 2, 3]) rfl ?_
  refine TO.boxA rfl rfl rfl rfl ?_; intro b2
  refine TO.boxA rfl rfl rfl rfl ?_; intro b4
  refine TO.boxA rfl rfl rfl rfl ?_; intro b6
  refine TO.assign rfl rfl rfl rfl ?_
  refine TO.done ?_
  refine X.seq_normal ?_
  refine T.seq ?_
  refine T.regionL (ll := [0, 1, 2]) rfl ?_
  refine TO.assign rfl rfl rfl rfl ?_
  refine TO.assign rfl rfl rfl rfl ?_
  refine TO.assign rfl rfl rfl rfl ?_
  refine TO.done ?_
  refine X.seq_normal ?_
  refine T.seq ?_
  refine T.seq ?_
  refine T.regionL (ll := [0, 1, 2]) rfl ?_
  refine TO.fieldAddr0 rfl rfl rfl rfl TWBLPreRises.f32_0 ?_
  refine TO.load1 rfl rfl rfl rfl TWBLPreRises.s3 mm2 rfl ?_
  refine TO.move rfl rfl rfl rfl ?_
  refine TO.done ?_
  refine X.seq_normal ?_
  refine T.meetSE3 (fun (lifted34 : Int) (gone35 : Int) (got36 : Int) => m_acequialaw07_PreRises_1_j3 c0 was1 p2 c3 lifted34 gone35 got36 = some (r0, o0)) (fun (lifted34 : Int) (gone35 : Int) (got36 : Int) => [(3, .pointer (some ⟨c3_k, 0, none⟩)), (4, .pointer (some ⟨b2, 0, none⟩)), (5, .pointer (some ⟨b4, 0, none⟩)), (6, .pointer (some ⟨b6, 0, none⟩)), (8, .int .i64 lifted34), (9, .int .i64 gone35), (10, .int .i64 got36)]) (fun (lifted34 : Int) (gone35 : Int) (got36 : Int) => [(some c3_k, .cells #[.bool c3] 4 (0, 0)), (some b2, .cells #[.int .i64 c0.N, .int .i64 c0.S, .int .i64 c0.T, .slice c0f3_b c0f3_n c0f3_c, .slice c0f4_b c0f4_n c0f4_c, .slice c0f5_b c0f5_n c0f5_c, .slice c0f6_b c0f6_n c0f6_c, .slice c0f7_b c0f7_n c0f7_c, .slice c0f8_b c0f8_n c0f8_c] 32 (0, 0)), (some b4, .cells #[.slice was1f0_b was1f0_n was1f0_c, .slice was1f1_b was1f1_n was1f1_c, .slice was1f2_b was1f2_n was1f2_c] 29 (0, 0)), (some b6, .cells #[.slice p2f0_b p2f0_n p2f0_c, .slice p2f1_b p2f1_n p2f1_c, .slice p2f2_b p2f2_n p2f2_c] 29 (0, 0))]) ?_ ?_
  ·
    refine T.block ?_
    obtain ⟨o_1, e_1, K_1⟩ := bd_some H
    refine T.loopE5 (fun (m_1 : Nat) (lifted8 : Int) (gone9 : Int) (got10 : Int) (x11 : Int) => loopM (fun s => m_acequialaw07_PreRises_1_s1 c0 was1 p2 c3 s.1 s.2.1 s.2.2.1 s.2.2.2) m_1 (lifted8, gone9, got10, x11) = some o_1) (fun (m_1 : Nat) (lifted8 : Int) (gone9 : Int) (got10 : Int) (x11 : Int) => [(3, .pointer (some ⟨c3_k, 0, none⟩)), (4, .pointer (some ⟨b2, 0, none⟩)), (5, .pointer (some ⟨b4, 0, none⟩)), (6, .pointer (some ⟨b6, 0, none⟩)), (8, .int .i64 lifted8), (9, .int .i64 gone9), (10, .int .i64 got10), (19, .int .i64 c0.N), (20, .int .i64 x11)]) (fun (m_1 : Nat) (lifted8 : Int) (gone9 : Int) (got10 : Int) (x11 : Int) => [(some c3_k, .cells #[.bool c3] 4 (0, 0)), (some b2, .cells #[.int .i64 c0.N, .int .i64 c0.S, .int .i64 c0.T, .slice c0f3_b c0f3_n c0f3_c, .slice c0f4_b c0f4_n c0f4_c, .slice c0f5_b c0f5_n c0f5_c, .slice c0f6_b c0f6_n c0f6_c, .slice c0f7_b c0f7_n c0f7_c, .slice c0f8_b c0f8_n c0f8_c] 32 (0, 0)), (some b4, .cells #[.slice was1f0_b was1f0_n was1f0_c, .slice was1f1_b was1f1_n was1f1_c, .slice was1f2_b was1f2_n was1f2_c] 29 (0, 0)), (some b6, .cells #[.slice p2f0_b p2f0_n p2f0_c, .slice p2f1_b p2f1_n p2f1_c, .slice p2f2_b p2f2_n p2f2_c] 29 (0, 0))]) (fun (m_1 : Nat) (lifted8 : Int) (gone9 : Int) (got10 : Int) (x11 : Int) => m_1) FUEL 0 0 0 0 e_1 (AllF.cons rfl (AllF.cons rfl (AllF.cons rfl (AllF.cons rfl (AllF.cons rfl (AllF.cons rfl (AllF.cons rfl (AllF.cons rfl (AllF.cons rfl AllF.nil))))))))) (Pick.cons tk3 (Pick.cons tk2 (Pick.cons tk1 (Pick.cons tk0 Pick.nil)))) ?_
    rintro m_1 lifted8 gone9 got10 x11 H
    obtain ⟨n_1, r_1, rfl, H, C_1⟩ := loopM_some H
    have H : m_acequialaw07_PreRises_1_s1 c0 was1 p2 c3 lifted8 gone9 got10 x11 = some r_1 := H
    unfold m_acequialaw07_PreRises_1_s1 at H
    refine T.seq ?_
    refine T.regionL (ll := [0]) rfl ?_
    refine TO.bin rfl rfl rfl rfl rfl rfl ?_
    refine TO.done ?_
    refine X.seq_normal ?_
    refine T.seq ?_
    rcases ite_some H with ⟨g12, H⟩ | ⟨g12, H⟩
    ·
      refine T.condPT rfl g12 ?_
      refine T.skip ?_
      refine X.seq_normal ?_
      refine T.seq ?_
      refine T.block ?_
      refine T.seq ?_
      refine T.regionL (ll := [0, 1]) rfl ?_
      refine TO.move rfl rfl rfl rfl ?_
      refine TO.assign rfl rfl rfl rfl ?_
      refine TO.done ?_
      refine X.seq_normal ?_
      refine T.seq ?_
      refine T.seq ?_
      obtain ⟨g13, H⟩ := gd_some H
      obtain ⟨g14, H⟩ := gd_some H
      rcases ite_some H with ⟨g15, H⟩ | ⟨g15, H⟩
      ·
        refine T.drawS 20 [0, 1, 2, 3, 4, 5, 6, 7, 8, 9, 10, 11, 12, 13, 14, 15, 16, 17, 18, 19] rfl mixed (by kernel_rfl) (by kernel_rfl) rfl (by kernel_rfl) ?_
        refine TQ.fieldAddr0 rfl rfl rfl rfl TWBLPreRises.f29_2 ?_
        refine TQ.load1 rfl rfl rfl rfl TWBLPreRises.s27 mm3 rfl ?_
        refine TQ.move rfl rfl rfl rfl ?_
        refine TQ.ixR h_p2f2 g13 rfl rfl rfl rfl rfl TWBLPreRises.l27 TWBLPreRises.n3 ?_
        refine TQ.ldIR h_p2f2 g13 rfl rfl rfl rfl TWBLPreRises.s3 ?_
        refine TQ.fieldAddr0 rfl rfl rfl rfl TWBLPreRises.f29_2 ?_
        refine TQ.load1 rfl rfl rfl rfl TWBLPreRises.s27 mm2 rfl ?_
        refine TQ.move rfl rfl rfl rfl ?_
        refine TQ.ixR h_was1f2 g14 rfl rfl rfl rfl rfl TWBLPreRises.l27 TWBLPreRises.n3 ?_
        refine TQ.ldIR h_was1f2 g14 rfl rfl rfl rfl TWBLPreRises.s3 ?_
        refine TQ.bin rfl rfl rfl rfl rfl rfl ?_
        refine TQ.move rfl rfl rfl rfl ?_
        refine TQ.decB (t := 34) (b' := true) rfl (decide_eq_true g15) ?_
        refine TQ.shut rfl rfl rfl rfl ?_
        refine TQ.shut rfl rfl rfl rfl ?_
        refine TQ.shut rfl rfl rfl rfl ?_
        refine TQ.shut rfl rfl rfl rfl ?_
        refine TQ.shut rfl rfl rfl rfl ?_
        refine TQ.shut rfl rfl rfl rfl ?_
        refine TQ.shut rfl rfl rfl rfl ?_
        refine TQ.shut rfl rfl rfl rfl ?_
        refine TQ.tail [20, 21] rfl rfl ?_
        refine TO.shut rfl rfl rfl rfl ?_
        refine TO.pickT rfl rfl rfl rfl rfl ?_
        refine TO.done ?_
        refine X.seq_normal ?_
        refine T.trim (AllF.cons (t := 3) rfl (AllF.cons (t := 4) rfl (AllF.cons (t := 5) rfl (AllF.cons (t := 6) rfl (AllF.cons (t := 8) rfl (AllF.cons (t := 9) rfl (AllF.cons (t := 10) rfl (AllF.cons (t := 19) rfl (AllF.cons (t := 20) rfl (AllF.cons (t := 11) rfl (AllF.cons (t := 35) rfl (AllF.cons (t := 36) rfl (AllF.cons (t := 37) rfl (AllF.cons (t := 38) rfl (AllF.cons (t := 39) rfl (AllF.cons (t := 40) rfl (AllF.cons (t := 41) rfl (AllF.cons (t := 42) rfl (AllF.cons (t := 43) rfl (AllF.cons (t := 44) rfl AllF.nil)))))))))))))))))))) ?_
        refine T.condT rfl rfl ?_
        refine T.seq ?_
        refine T.regionL (ll := [0]) rfl ?_
        refine TO.assign rfl rfl rfl rfl ?_
        refine TO.done ?_
        refine X.seq_normal ?_
        refine T.trim (AllF.cons (t := 7) rfl AllF.nil) ?_
        refine T.ret ?_
        refine X.then_ret ?_
        refine X.block_ret ?_
        refine X.then_ret ?_
        have H := loop_exitE H C_1 ▸ K_1
        refine X.then_ret ?_
        refine X.block_ret ?_
        refine X.then_ret ?_
        obtain ⟨rfl, rfl⟩ := ret2 H
        exact X.ret1 rfl rfl rfl rfl (Res.tmp rfl) (Pick.cons tk0 Pick.nil) ⟨rfl, rfl⟩
      ·
        obtain ⟨g16, H⟩ := gd_some H
        obtain ⟨g17, H⟩ := gd_some H
        refine T.drawS 20 [0, 1, 2, 3, 4, 5, 6, 7, 8, 9, 10, 11, 12, 13, 14, 15, 16, 17, 18, 19] rfl mixed (by kernel_rfl) (by kernel_rfl) rfl (by kernel_rfl) ?_
        refine TQ.fieldAddr0 rfl rfl rfl rfl TWBLPreRises.f29_2 ?_
        refine TQ.load1 rfl rfl rfl rfl TWBLPreRises.s27 mm3 rfl ?_
        refine TQ.move rfl rfl rfl rfl ?_
        refine TQ.ixR h_p2f2 g13 rfl rfl rfl rfl rfl TWBLPreRises.l27 TWBLPreRises.n3 ?_
        refine TQ.ldIR h_p2f2 g13 rfl rfl rfl rfl TWBLPreRises.s3 ?_
        refine TQ.fieldAddr0 rfl rfl rfl rfl TWBLPreRises.f29_2 ?_
        refine TQ.load1 rfl rfl rfl rfl TWBLPreRises.s27 mm2 rfl ?_
        refine TQ.move rfl rfl rfl rfl ?_
        refine TQ.ixR h_was1f2 g14 rfl rfl rfl rfl rfl TWBLPreRises.l27 TWBLPreRises.n3 ?_
        refine TQ.ldIR h_was1f2 g14 rfl rfl rfl rfl TWBLPreRises.s3 ?_
        refine TQ.bin rfl rfl rfl rfl rfl rfl ?_
        refine TQ.move rfl rfl rfl rfl ?_
        refine TQ.decB (t := 34) (b' := false) rfl (decide_eq_false g15) ?_
        refine TQ.fieldAddr0 rfl rfl rfl rfl TWBLPreRises.f29_2 ?_
        refine TQ.load1 rfl rfl rfl rfl TWBLPreRises.s27 mm3 rfl ?_
        refine TQ.move rfl rfl rfl rfl ?_
        refine TQ.ixR h_p2f2 g16 rfl rfl rfl rfl rfl TWBLPreRises.l27 TWBLPreRises.n3 ?_
        refine TQ.ldIR h_p2f2 g16 rfl rfl rfl rfl TWBLPreRises.s3 ?_
        refine TQ.fieldAddr0 rfl rfl rfl rfl TWBLPreRises.f32_0 ?_
        refine TQ.load1 rfl rfl rfl rfl TWBLPreRises.s3 mm1 rfl ?_
        refine TQ.mulG g17 rfl rfl rfl rfl rfl ?_
        refine TQ.tail [20, 21] rfl rfl ?_
        refine TO.bin rfl rfl rfl rfl rfl rfl ?_
        refine TO.pickF rfl rfl rfl rfl rfl ?_
        refine TO.done ?_
        refine X.seq_normal ?_
        refine T.trim (AllF.cons (t := 3) rfl (AllF.cons (t := 4) rfl (AllF.cons (t := 5) rfl (AllF.cons (t := 6) rfl (AllF.cons (t := 8) rfl (AllF.cons (t := 9) rfl (AllF.cons (t := 10) rfl (AllF.cons (t := 19) rfl (AllF.cons (t := 20) rfl (AllF.cons (t := 11) rfl (AllF.cons (t := 35) rfl (AllF.cons (t := 36) rfl (AllF.cons (t := 37) rfl (AllF.cons (t := 38) rfl (AllF.cons (t := 39) rfl (AllF.cons (t := 40) rfl (AllF.cons (t := 41) rfl (AllF.cons (t := 42) rfl (AllF.cons (t := 43) rfl (AllF.cons (t := 44) rfl AllF.nil)))))))))))))))))))) ?_
        rcases ite_some H with ⟨g18, H⟩ | ⟨g18, H⟩
        ·
          refine T.condPT rfl g18 ?_
          refine T.seq ?_
          refine T.regionL (ll := [0]) rfl ?_
          refine TO.assign rfl rfl rfl rfl ?_
          refine TO.done ?_
          refine X.seq_normal ?_
          refine T.trim (AllF.cons (t := 7) rfl AllF.nil) ?_
          refine T.ret ?_
          refine X.then_ret ?_
          refine X.block_ret ?_
          refine X.then_ret ?_
          have H := loop_exitE H C_1 ▸ K_1
          refine X.then_ret ?_
          refine X.block_ret ?_
          refine X.then_ret ?_
          obtain ⟨rfl, rfl⟩ := ret2 H
          exact X.ret1 rfl rfl rfl rfl (Res.tmp rfl) (Pick.cons tk0 Pick.nil) ⟨rfl, rfl⟩
        ·
          refine T.condPF rfl g18 ?_
          refine T.skip ?_
          refine X.seq_normal ?_
          refine T.seq ?_
          refine T.seq ?_
          obtain ⟨g19, H⟩ := gd_some H
          obtain ⟨g20, H⟩ := gd_some H
          refine T.drawS 10 [0, 1, 2, 3, 4, 5, 6, 7, 8, 9] rfl mixed (by kernel_rfl) (by kernel_rfl) rfl (by kernel_rfl) ?_
          refine TQ.fieldAddr0 rfl rfl rfl rfl TWBLPreRises.f29_2 ?_
          refine TQ.load1 rfl rfl rfl rfl TWBLPreRises.s27 mm3 rfl ?_
          refine TQ.move rfl rfl rfl rfl ?_
          refine TQ.ixR h_p2f2 g19 rfl rfl rfl rfl rfl TWBLPreRises.l27 TWBLPreRises.n3 ?_
          refine TQ.ldIR h_p2f2 g19 rfl rfl rfl rfl TWBLPreRises.s3 ?_
          refine TQ.fieldAddr0 rfl rfl rfl rfl TWBLPreRises.f29_2 ?_
          refine TQ.load1 rfl rfl rfl rfl TWBLPreRises.s27 mm2 rfl ?_
          refine TQ.move rfl rfl rfl rfl ?_
          refine TQ.ixR h_was1f2 g20 rfl rfl rfl rfl rfl TWBLPreRises.l27 TWBLPreRises.n3 ?_
          refine TQ.ldIR h_was1f2 g20 rfl rfl rfl rfl TWBLPreRises.s3 ?_
          refine TQ.tail [10] rfl rfl ?_
          refine TO.bin rfl rfl rfl rfl rfl rfl ?_
          refine TO.done ?_
          refine X.seq_normal ?_
          refine T.trim (AllF.cons (t := 3) rfl (AllF.cons (t := 4) rfl (AllF.cons (t := 5) rfl (AllF.cons (t := 6) rfl (AllF.cons (t := 8) rfl (AllF.cons (t := 9) rfl (AllF.cons (t := 10) rfl (AllF.cons (t := 19) rfl (AllF.cons (t := 20) rfl (AllF.cons (t := 11) rfl (AllF.cons (t := 35) rfl (AllF.cons (t := 36) rfl (AllF.cons (t := 37) rfl (AllF.cons (t := 38) rfl (AllF.cons (t := 39) rfl (AllF.cons (t := 40) rfl (AllF.cons (t := 41) rfl (AllF.cons (t := 42) rfl (AllF.cons (t := 43) rfl (AllF.cons (t := 55) rfl AllF.nil)))))))))))))))))))) ?_
          refine T.meetSE1 (fun (lifted23 : Int) => m_acequialaw07_PreRises_1_j2 was1 p2 gone9 got10 x11 lifted23 = some r_1) (fun (lifted23 : Int) => [(3, .pointer (some ⟨c3_k, 0, none⟩)), (4, .pointer (some ⟨b2, 0, none⟩)), (5, .pointer (some ⟨b4, 0, none⟩)), (6, .pointer (some ⟨b6, 0, none⟩)), (8, .int .i64 lifted23), (9, .int .i64 gone9), (10, .int .i64 got10), (11, .int .i64 x11), (19, .int .i64 c0.N), (20, .int .i64 x11), (35, .pointer (some ⟨b6, 2, none⟩)), (36, .slice p2f2_b p2f2_n p2f2_c), (37, .int .i64 x11), (39, .int .i64 (p2.H.getD x11.toNat 0)), (40, .pointer (some ⟨b2, 0, none⟩)), (41, .int .i64 c0.N), (42, .int .i64 (2 * c0.N)), (43, .bool (decide ((2 * c0.N) ≤ (p2.H.getD x11.toNat 0))))]) (fun (lifted23 : Int) => [(some c3_k, .cells #[.bool c3] 4 (0, 0)), (some b2, .cells #[.int .i64 c0.N, .int .i64 c0.S, .int .i64 c0.T, .slice c0f3_b c0f3_n c0f3_c, .slice c0f4_b c0f4_n c0f4_c, .slice c0f5_b c0f5_n c0f5_c, .slice c0f6_b c0f6_n c0f6_c, .slice c0f7_b c0f7_n c0f7_c, .slice c0f8_b c0f8_n c0f8_c] 32 (0, 0)), (some b4, .cells #[.slice was1f0_b was1f0_n was1f0_c, .slice was1f1_b was1f1_n was1f1_c, .slice was1f2_b was1f2_n was1f2_c] 29 (0, 0)), (some b6, .cells #[.slice p2f0_b p2f0_n p2f0_c, .slice p2f1_b p2f1_n p2f1_c, .slice p2f2_b p2f2_n p2f2_c] 29 (0, 0))]) ?_ ?_
          ·
            rcases ite_some H with ⟨g21, H⟩ | ⟨g21, H⟩
            ·
              refine T.condPT rfl g21 ?_
              obtain ⟨g22, H⟩ := gd_some H
              refine T.regionL (ll := [0, 1, 2]) rfl ?_
              refine TO.move rfl rfl rfl rfl ?_
              refine TO.addG g22 rfl rfl rfl rfl rfl ?_
              refine TO.assign rfl rfl rfl rfl ?_
              refine TO.done ?_
              exact X.metE1 (lifted8 + 1) H (AllF.cons rfl (AllF.cons rfl (AllF.cons rfl (AllF.cons rfl (AllF.cons rfl (AllF.cons rfl (AllF.cons rfl (AllF.cons rfl (AllF.cons rfl (AllF.cons rfl (AllF.cons rfl (AllF.cons rfl (AllF.cons rfl (AllF.cons rfl (AllF.cons rfl (AllF.cons rfl (AllF.cons rfl (AllF.cons rfl AllF.nil)))))))))))))))))) (Pick.cons tk0 (Pick.cons tk0 (Pick.cons tk0 (Pick.cons tk0 Pick.nil))))
            ·
              refine T.condPF rfl g21 ?_
              refine T.skip ?_
              exact X.metE1 lifted8 H (AllF.cons rfl (AllF.cons rfl (AllF.cons rfl (AllF.cons rfl (AllF.cons rfl (AllF.cons rfl (AllF.cons rfl (AllF.cons rfl (AllF.cons rfl (AllF.cons rfl (AllF.cons rfl (AllF.cons rfl (AllF.cons rfl (AllF.cons rfl (AllF.cons rfl (AllF.cons rfl (AllF.cons rfl (AllF.cons rfl AllF.nil)))))))))))))))))) (Pick.cons tk0 (Pick.cons tk0 (Pick.cons tk0 (Pick.cons tk0 Pick.nil))))
          · rintro lifted23 H
            unfold m_acequialaw07_PreRises_1_j2 at H
            refine T.seq ?_
            obtain ⟨g24, H⟩ := gd_some H
            obtain ⟨g25, H⟩ := gd_some H
            obtain ⟨g26, H⟩ := gd_some H
            refine T.drawS 10 [0, 1, 2, 3, 4, 5, 6, 7, 8, 9] rfl mixed (by kernel_rfl) (by kernel_rfl) rfl (by kernel_rfl) ?_
            refine TQ.fieldAddr0 rfl rfl rfl rfl TWBLPreRises.f29_1 ?_
            refine TQ.load1 rfl rfl rfl rfl TWBLPreRises.s26 mm3 rfl ?_
            refine TQ.move rfl rfl rfl rfl ?_
            refine TQ.ixR h_p2f1 g24 rfl rfl rfl rfl rfl TWBLPreRises.l26 TWBLPreRises.n2 ?_
            refine TQ.ldIR h_p2f1 g24 rfl rfl rfl rfl TWBLPreRises.s2 ?_
            refine TQ.fieldAddr0 rfl rfl rfl rfl TWBLPreRises.f29_1 ?_
            refine TQ.load1 rfl rfl rfl rfl TWBLPreRises.s26 mm2 rfl ?_
            refine TQ.move rfl rfl rfl rfl ?_
            refine TQ.ixR h_was1f1 g25 rfl rfl rfl rfl rfl TWBLPreRises.l26 TWBLPreRises.n2 ?_
            refine TQ.ldIR h_was1f1 g25 rfl rfl rfl rfl TWBLPreRises.s2 ?_
            refine TQ.tail [10, 11] rfl rfl ?_
            refine TO.subG g26 rfl rfl rfl rfl rfl ?_
            refine TO.assign rfl rfl rfl rfl ?_
            refine TO.done ?_
            refine X.seq_normal ?_
            refine T.trim (AllF.cons (t := 3) rfl (AllF.cons (t := 4) rfl (AllF.cons (t := 5) rfl (AllF.cons (t := 6) rfl (AllF.cons (t := 8) rfl (AllF.cons (t := 9) rfl (AllF.cons (t := 10) rfl (AllF.cons (t := 19) rfl (AllF.cons (t := 20) rfl (AllF.cons (t := 35) rfl (AllF.cons (t := 36) rfl (AllF.cons (t := 37) rfl (AllF.cons (t := 39) rfl (AllF.cons (t := 40) rfl (AllF.cons (t := 41) rfl (AllF.cons (t := 42) rfl (AllF.cons (t := 43) rfl (AllF.cons (t := 12) rfl AllF.nil)))))))))))))))))) ?_
            refine T.block ?_
            refine T.seq ?_
            refine T.regionL (ll := [0, 1, 2]) rfl ?_
            refine TO.move rfl rfl rfl rfl ?_
            refine TO.bin rfl rfl rfl rfl rfl rfl ?_
            refine TO.assign rfl rfl rfl rfl ?_
            refine TO.done ?_
            refine X.seq_normal ?_
            rcases ite_some H with ⟨g27, H⟩ | ⟨g27, H⟩
            ·
              refine T.condPT rfl g27 ?_
              obtain ⟨g28, H⟩ := gd_some H
              refine T.regionL (ll := [0, 1, 2]) rfl ?_
              refine TO.move rfl rfl rfl rfl ?_
              refine TO.addG g28 rfl rfl rfl rfl rfl ?_
              refine TO.assign rfl rfl rfl rfl ?_
              refine TO.done ?_
              refine X.block_normal ?_
              refine X.block_normal ?_
              refine X.seq_normal ?_
              obtain ⟨g29, H⟩ := gd_some H
              refine T.regionL (ll := [0, 1]) rfl ?_
              refine TO.addG g29 rfl rfl rfl rfl rfl ?_
              refine TO.move rfl rfl rfl rfl ?_
              refine TO.done ?_
              have H := loop_next H C_1
              exact X.againE5 n_1 lifted23 (gone9 + 1) got10 (x11 + 1) H (Nat.lt_succ_self _) (AllF.cons rfl (AllF.cons rfl (AllF.cons rfl (AllF.cons rfl (AllF.cons rfl (AllF.cons rfl (AllF.cons rfl (AllF.cons rfl (AllF.cons rfl AllF.nil))))))))) (Pick.cons tk0 (Pick.cons tk0 (Pick.cons tk0 (Pick.cons tk0 Pick.nil))))
            ·
              refine T.condPF rfl g27 ?_
              refine T.seq ?_
              refine T.regionL (ll := [0, 1, 2]) rfl ?_
              refine TO.move rfl rfl rfl rfl ?_
              refine TO.bin rfl rfl rfl rfl rfl rfl ?_
              refine TO.assign rfl rfl rfl rfl ?_
              refine TO.done ?_
              refine X.seq_normal ?_
              rcases ite_some H with ⟨g30, H⟩ | ⟨g30, H⟩
              ·
                refine T.condPT rfl g30 ?_
                obtain ⟨g31, H⟩ := gd_some H
                refine T.regionL (ll := [0, 1, 2]) rfl ?_
                refine TO.move rfl rfl rfl rfl ?_
                refine TO.addG g31 rfl rfl rfl rfl rfl ?_
                refine TO.assign rfl rfl rfl rfl ?_
                refine TO.done ?_
                refine X.block_normal ?_
                refine X.block_normal ?_
                refine X.seq_normal ?_
                refine T.trim (AllF.cons (t := 3) rfl (AllF.cons (t := 4) rfl (AllF.cons (t := 5) rfl (AllF.cons (t := 6) rfl (AllF.cons (t := 8) rfl (AllF.cons (t := 9) rfl (AllF.cons (t := 10) rfl (AllF.cons (t := 19) rfl (AllF.cons (t := 20) rfl (AllF.cons (t := 35) rfl (AllF.cons (t := 36) rfl (AllF.cons (t := 37) rfl (AllF.cons (t := 39) rfl (AllF.cons (t := 40) rfl (AllF.cons (t := 41) rfl (AllF.cons (t := 42) rfl (AllF.cons (t := 43) rfl AllF.nil))))))))))))))))) ?_
                obtain ⟨g32, H⟩ := gd_some H
                refine T.regionL (ll := [0, 1]) rfl ?_
                refine TO.addG g32 rfl rfl rfl rfl rfl ?_
                refine TO.move rfl rfl rfl rfl ?_
                refine TO.done ?_
                have H := loop_next H C_1
                exact X.againE5 n_1 lifted23 gone9 (got10 + 1) (x11 + 1) H (Nat.lt_succ_self _) (AllF.cons rfl (AllF.cons rfl (AllF.cons rfl (AllF.cons rfl (AllF.cons rfl (AllF.cons rfl (AllF.cons rfl (AllF.cons rfl (AllF.cons rfl AllF.nil))))))))) (Pick.cons tk0 (Pick.cons tk0 (Pick.cons tk0 (Pick.cons tk0 Pick.nil))))
              ·
                refine T.condPF rfl g30 ?_
                refine T.skip ?_
                refine X.block_normal ?_
                refine X.block_normal ?_
                refine X.seq_normal ?_
                obtain ⟨g33, H⟩ := gd_some H
                refine T.regionL (ll := [0, 1]) rfl ?_
                refine TO.addG g33 rfl rfl rfl rfl rfl ?_
                refine TO.move rfl rfl rfl rfl ?_
                refine TO.done ?_
                have H := loop_next H C_1
                exact X.againE5 n_1 lifted23 gone9 got10 (x11 + 1) H (Nat.lt_succ_self _) (AllF.cons rfl (AllF.cons rfl (AllF.cons rfl (AllF.cons rfl (AllF.cons rfl (AllF.cons rfl (AllF.cons rfl (AllF.cons rfl (AllF.cons rfl AllF.nil))))))))) (Pick.cons tk0 (Pick.cons tk0 (Pick.cons tk0 (Pick.cons tk0 Pick.nil))))
    ·
      refine T.condPF rfl g12 ?_
      refine T.exit ?_
      refine X.then_exit ?_
      have H := loop_exitE H C_1 ▸ K_1
      refine X.then_exit ?_
      refine X.block_here ?_
      exact X.metE3 lifted8 gone9 got10 H (AllF.cons rfl (AllF.cons rfl (AllF.cons rfl (AllF.cons rfl (AllF.cons rfl (AllF.cons rfl (AllF.cons rfl AllF.nil))))))) (Pick.cons tk0 (Pick.cons tk0 (Pick.cons tk0 (Pick.cons tk0 Pick.nil))))
  · rintro lifted34 gone35 got36 H
    unfold m_acequialaw07_PreRises_1_j3 at H
    refine T.seq ?_
    refine T.seq ?_
    refine T.regionL (ll := [0]) rfl ?_
    refine TO.load1 rfl rfl rfl rfl TWBLPreRises.s4 mm0 rfl ?_
    refine TO.done ?_
    refine X.seq_normal ?_
    rcases ite_some H with ⟨g37, H⟩ | ⟨g37, H⟩
    ·
      refine T.condT rfl g37 ?_
      refine T.seq ?_
      refine T.regionL (ll := [0]) rfl ?_
      refine TO.store1n (cs' := [.bool false]) rfl rfl rfl rfl tk0 TWBLPreRises.n4 rfl rfl rfl ?_
      refine TO.done ?_
      refine X.seq_normal ?_
      refine T.seq ?_
      obtain ⟨g38, H⟩ := gd_some H
      obtain ⟨g39, H⟩ := gd_some H
      refine T.regionL (ll := [0, 1, 2, 3, 4, 5, 6]) rfl ?_
      refine TO.move rfl rfl rfl rfl ?_
      refine TO.move rfl rfl rfl rfl ?_
      refine TO.addG g38 rfl rfl rfl rfl rfl ?_
      refine TO.move rfl rfl rfl rfl ?_
      refine TO.addG g39 rfl rfl rfl rfl rfl ?_
      refine TO.bin rfl rfl rfl rfl rfl rfl ?_
      refine TO.assign rfl rfl rfl rfl ?_
      refine TO.done ?_
      refine X.seq_normal ?_
      refine T.trim (AllF.cons (t := 7) rfl AllF.nil) ?_
      refine T.ret ?_
      refine X.then_ret ?_
      obtain ⟨rfl, rfl⟩ := ret2 H
      exact X.ret1 rfl rfl rfl rfl (Res.tmp rfl) (Pick.cons tk0 Pick.nil) ⟨rfl, rfl⟩
    ·
      refine T.condF rfl (Bool.eq_false_iff.2 g37) ?_
      refine T.skip ?_
      refine X.seq_normal ?_
      refine T.seq ?_
      refine T.seq ?_
      refine T.regionL (ll := [0, 1]) rfl ?_
      refine TO.move rfl rfl rfl rfl ?_
      refine TO.bin rfl rfl rfl rfl rfl rfl ?_
      refine TO.done ?_
      refine X.seq_normal ?_
      rcases ite_some H with ⟨g40, H⟩ | ⟨g40, H⟩
      ·
        refine T.condPT rfl g40 ?_
        refine T.seq ?_
        rcases ite_some H with ⟨g41, H⟩ | ⟨g41, H⟩
        ·
          obtain ⟨g42, H⟩ := gd_some H
          rcases ite_some H with ⟨g43, H⟩ | ⟨g43, H⟩
          ·
            obtain ⟨r44, e45, H⟩ := bd_some H
            refine T.regionL (ll := [0, 1, 2, 3, 4, 5, 6, 7, 8, 9, 10, 11, 12, 13, 14, 15]) rfl ?_
            refine TO.move rfl rfl rfl rfl ?_
            refine TO.bin rfl rfl rfl rfl rfl rfl ?_
            refine TO.move rfl rfl rfl rfl ?_
            refine TO.decB (t := 91) (b' := true) rfl (decide_eq_true g41) ?_
            refine TO.move rfl rfl rfl rfl ?_
            refine TO.move rfl rfl rfl rfl ?_
            refine TO.addG g42 rfl rfl rfl rfl rfl ?_
            refine TO.bin rfl rfl rfl rfl rfl rfl ?_
            refine TO.pickT rfl rfl rfl rfl rfl ?_
            refine TO.move rfl rfl rfl rfl ?_
            refine TO.decB (t := 97) (b' := true) rfl (decide_eq_true g43) ?_
            refine TO.fieldAddr0 rfl rfl rfl rfl TWBLPreRises.f29_0 ?_
            refine TO.load1 rfl rfl rfl rfl TWBLPreRises.s26 mm3 rfl ?_
            refine TO.fieldAddr0 rfl rfl rfl rfl TWBLPreRises.f29_0 ?_
            refine TO.load1 rfl rfl rfl rfl TWBLPreRises.s26 mm2 rfl ?_
            refine TO.callX TWBLPreRises.c39 rfl rfl rfl rfl (fun wc hwc => w_acequialow_Longs (a0 := p2.Res) (b1 := was1.Res) wc (h_p2f0.mono hwc) (h_was1f0.mono hwc) e45) ?_
            rintro _ _ ⟨rfl, rfl⟩
            refine TO.pickT rfl rfl rfl rfl rfl ?_
            refine TO.assign rfl rfl rfl rfl ?_
            refine TO.done ?_
            refine X.seq_normal ?_
            refine T.trim (AllF.cons (t := 7) rfl AllF.nil) ?_
            refine T.ret ?_
            refine X.then_ret ?_
            obtain ⟨rfl, rfl⟩ := ret2 H
            exact X.ret1 rfl rfl rfl rfl (Res.tmp rfl) (Pick.cons tk0 Pick.nil) ⟨rfl, rfl⟩
          ·
            refine T.regionL (ll := [0, 1, 2, 3, 4, 5, 6, 7, 8, 9, 10, 11, 12, 13, 14, 15]) rfl ?_
            refine TO.move rfl rfl rfl rfl ?_
            refine TO.bin rfl rfl rfl rfl rfl rfl ?_
            refine TO.move rfl rfl rfl rfl ?_
            refine TO.decB (t := 91) (b' := true) rfl (decide_eq_true g41) ?_
            refine TO.move rfl rfl rfl rfl ?_
            refine TO.move rfl rfl rfl rfl ?_
            refine TO.addG g42 rfl rfl rfl rfl rfl ?_
            refine TO.bin rfl rfl rfl rfl rfl rfl ?_
            refine TO.pickT rfl rfl rfl rfl rfl ?_
            refine TO.move rfl rfl rfl rfl ?_
            refine TO.decB (t := 97) (b' := false) rfl (decide_eq_false g43) ?_
            refine TO.shut rfl rfl rfl rfl ?_
            refine TO.shut rfl rfl rfl rfl ?_
            refine TO.shut rfl rfl rfl rfl ?_
            refine TO.shut rfl rfl rfl rfl ?_
            refine TO.shut rfl rfl rfl rfl ?_
            refine TO.pickF rfl rfl rfl rfl rfl ?_
            refine TO.assign rfl rfl rfl rfl ?_
            refine TO.done ?_
            refine X.seq_normal ?_
            refine T.trim (AllF.cons (t := 7) rfl AllF.nil) ?_
            refine T.ret ?_
            refine X.then_ret ?_
            obtain ⟨rfl, rfl⟩ := ret2 H
            exact X.ret1 rfl rfl rfl rfl (Res.tmp rfl) (Pick.cons tk0 Pick.nil) ⟨rfl, rfl⟩
        ·
          refine T.regionL (ll := [0, 1, 2, 3, 4, 5, 6, 7, 8, 9, 10, 11, 12, 13, 14, 15]) rfl ?_
          refine TO.move rfl rfl rfl rfl ?_
          refine TO.bin rfl rfl rfl rfl rfl rfl ?_
          refine TO.move rfl rfl rfl rfl ?_
          refine TO.decB (t := 91) (b' := false) rfl (decide_eq_false g41) ?_
          refine TO.shut rfl rfl rfl rfl ?_
          refine TO.shut rfl rfl rfl rfl ?_
          refine TO.shut rfl rfl rfl rfl ?_
          refine TO.shut rfl rfl rfl rfl ?_
          refine TO.pickF rfl rfl rfl rfl rfl ?_
          refine TO.move rfl rfl rfl rfl ?_
          refine TO.shut rfl rfl rfl rfl ?_
          refine TO.shut rfl rfl rfl rfl ?_
          refine TO.shut rfl rfl rfl rfl ?_
          refine TO.shut rfl rfl rfl rfl ?_
          refine TO.shut rfl rfl rfl rfl ?_
          refine TO.pickF rfl rfl rfl rfl rfl ?_
          refine TO.assign rfl rfl rfl rfl ?_
          refine TO.done ?_
          refine X.seq_normal ?_
          refine T.trim (AllF.cons (t := 7) rfl AllF.nil) ?_
          refine T.ret ?_
          refine X.then_ret ?_
          obtain ⟨rfl, rfl⟩ := ret2 H
          exact X.ret1 rfl rfl rfl rfl (Res.tmp rfl) (Pick.cons tk0 Pick.nil) ⟨rfl, rfl⟩
      ·
        refine T.condPF rfl g40 ?_
        refine T.skip ?_
        refine X.seq_normal ?_
        refine T.seq ?_
        refine T.regionL (ll := [0, 1]) rfl ?_
        refine TO.assign rfl rfl rfl rfl ?_
        refine TO.assign rfl rfl rfl rfl ?_
        refine TO.done ?_
        refine X.seq_normal ?_
        refine T.seq ?_
        refine T.seq ?_
        refine T.regionL (ll := [0, 1, 2, 3]) rfl ?_
        refine TO.fieldAddr0 rfl rfl rfl rfl TWBLPreRises.f29_0 ?_
        refine TO.load1 rfl rfl rfl rfl TWBLPreRises.s26 mm3 rfl ?_
        refine TO.lenX (xs := p2.Res) h_p2f0.len rfl rfl rfl rfl rfl TWBLPreRises.l26 ?_
        refine TO.move rfl rfl rfl rfl ?_
        refine TO.done ?_
        refine X.seq_normal ?_
        refine T.meetSE2 (fun (changed67 : Int) (used68 : Bool) => m_acequialaw07_PreRises_1_j5 c3 gone35 got36 changed67 used68 = some (r0, o0)) (fun (changed67 : Int) (used68 : Bool) => [(9, .int .i64 gone35), (10, .int .i64 got36), (13, .int .i64 changed67), (14, .bool used68)]) (fun (changed67 : Int) (used68 : Bool) => [(some c3_k, .cells #[.bool c3] 4 (0, 0))]) ?_ ?_
        ·
          refine T.block ?_
          obtain ⟨o_4, e_4, K_4⟩ := bd_some H
          refine T.loopE4 (fun (m_4 : Nat) (changed46 : Int) (used47 : Bool) (x48 : Int) => loopM (fun s => m_acequialaw07_PreRises_1_s4 c0 was1 p2 s.1 s.2.1 s.2.2) m_4 (changed46, used47, x48) = some o_4) (fun (m_4 : Nat) (changed46 : Int) (used47 : Bool) (x48 : Int) => [(4, .pointer (some ⟨b2, 0, none⟩)), (5, .pointer (some ⟨b4, 0, none⟩)), (6, .pointer (some ⟨b6, 0, none⟩)), (9, .int .i64 gone35), (10, .int .i64 got36), (13, .int .i64 changed46), (14, .bool used47), (106, .int .i64 (p2.Res.length : Int)), (107, .int .i64 x48)]) (fun (m_4 : Nat) (changed46 : Int) (used47 : Bool) (x48 : Int) => [(some b2, .cells #[.int .i64 c0.N, .int .i64 c0.S, .int .i64 c0.T, .slice c0f3_b c0f3_n c0f3_c, .slice c0f4_b c0f4_n c0f4_c, .slice c0f5_b c0f5_n c0f5_c, .slice c0f6_b c0f6_n c0f6_c, .slice c0f7_b c0f7_n c0f7_c, .slice c0f8_b c0f8_n c0f8_c] 32 (0, 0)), (some b4, .cells #[.slice was1f0_b was1f0_n was1f0_c, .slice was1f1_b was1f1_n was1f1_c, .slice was1f2_b was1f2_n was1f2_c] 29 (0, 0)), (some b6, .cells #[.slice p2f0_b p2f0_n p2f0_c, .slice p2f1_b p2f1_n p2f1_c, .slice p2f2_b p2f2_n p2f2_c] 29 (0, 0)), (some c3_k, .cells #[.bool c3] 4 (0, 0))]) (fun (m_4 : Nat) (changed46 : Int) (used47 : Bool) (x48 : Int) => m_4) FUEL 0 false 0 e_4 (AllF.cons rfl (AllF.cons rfl (AllF.cons rfl (AllF.cons rfl (AllF.cons rfl (AllF.cons rfl (AllF.cons rfl (AllF.cons rfl (AllF.cons rfl AllF.nil))))))))) (Pick.cons tk1 (Pick.cons tk1 (Pick.cons tk1 (Pick.cons tk0 Pick.nil)))) ?_
          rintro m_4 changed46 used47 x48 H
          obtain ⟨n_4, r_4, rfl, H, C_4⟩ := loopM_some H
          have H : m_acequialaw07_PreRises_1_s4 c0 was1 p2 changed46 used47 x48 = some r_4 := H
          unfold m_acequialaw07_PreRises_1_s4 at H
          refine T.seq ?_
          refine T.regionL (ll := [0]) rfl ?_
          refine TO.bin rfl rfl rfl rfl rfl rfl ?_
          refine TO.done ?_
          refine X.seq_normal ?_
          refine T.seq ?_
          rcases ite_some H with ⟨g49, H⟩ | ⟨g49, H⟩
          ·
            refine T.condPT rfl g49 ?_
            refine T.skip ?_
            refine X.seq_normal ?_
            refine T.seq ?_
            refine T.block ?_
            refine T.seq ?_
            refine T.regionL (ll := [0, 1]) rfl ?_
            refine TO.move rfl rfl rfl rfl ?_
            refine TO.assign rfl rfl rfl rfl ?_
            refine TO.done ?_
            refine X.seq_normal ?_
            refine T.seq ?_
            refine T.seq ?_
            obtain ⟨g50, H⟩ := gd_some H
            obtain ⟨g51, H⟩ := gd_some H
            refine T.drawS 10 [0, 1, 2, 3, 4, 5, 6, 7, 8, 9] rfl mixed (by kernel_rfl) (by kernel_rfl) rfl (by kernel_rfl) ?_
            refine TQ.fieldAddr0 rfl rfl rfl rfl TWBLPreRises.f29_0 ?_
            refine TQ.load1 rfl rfl rfl rfl TWBLPreRises.s26 mm2 rfl ?_
            refine TQ.move rfl rfl rfl rfl ?_
            refine TQ.ixR h_p2f0 g50 rfl rfl rfl rfl rfl TWBLPreRises.l26 TWBLPreRises.n2 ?_
            refine TQ.ldIR h_p2f0 g50 rfl rfl rfl rfl TWBLPreRises.s2 ?_
            refine TQ.fieldAddr0 rfl rfl rfl rfl TWBLPreRises.f29_0 ?_
            refine TQ.load1 rfl rfl rfl rfl TWBLPreRises.s26 mm1 rfl ?_
            refine TQ.move rfl rfl rfl rfl ?_
            refine TQ.ixR h_was1f0 g51 rfl rfl rfl rfl rfl TWBLPreRises.l26 TWBLPreRises.n2 ?_
            refine TQ.ldIR h_was1f0 g51 rfl rfl rfl rfl TWBLPreRises.s2 ?_
            refine TQ.tail [10] rfl rfl ?_
            refine TO.bin rfl rfl rfl rfl rfl rfl ?_
            refine TO.done ?_
            refine X.seq_normal ?_
            refine T.trim (AllF.cons (t := 4) rfl (AllF.cons (t := 5) rfl (AllF.cons (t := 6) rfl (AllF.cons (t := 9) rfl (AllF.cons (t := 10) rfl (AllF.cons (t := 13) rfl (AllF.cons (t := 14) rfl (AllF.cons (t := 106) rfl (AllF.cons (t := 107) rfl (AllF.cons (t := 15) rfl (AllF.cons (t := 120) rfl AllF.nil))))))))))) ?_
            rcases ite_some H with ⟨g52, H⟩ | ⟨g52, H⟩
            ·
              refine T.condPT rfl g52 ?_
              refine T.exit ?_
              refine X.then_exit ?_
              refine X.block_here ?_
              refine X.seq_normal ?_
              obtain ⟨g53, H⟩ := gd_some H
              refine T.regionL (ll := [0, 1]) rfl ?_
              refine TO.addG g53 rfl rfl rfl rfl rfl ?_
              refine TO.move rfl rfl rfl rfl ?_
              refine TO.done ?_
              have H := loop_next H C_4
              exact X.againE4 n_4 changed46 used47 (x48 + 1) H (Nat.lt_succ_self _) (AllF.cons rfl (AllF.cons rfl (AllF.cons rfl (AllF.cons rfl (AllF.cons rfl (AllF.cons rfl (AllF.cons rfl (AllF.cons rfl (AllF.cons rfl AllF.nil))))))))) (Pick.cons tk0 (Pick.cons tk0 (Pick.cons tk0 (Pick.cons tk0 Pick.nil))))
            ·
              refine T.condPF rfl g52 ?_
              refine T.skip ?_
              refine X.seq_normal ?_
              refine T.seq ?_
              obtain ⟨g54, H⟩ := gd_some H
              refine T.regionL (ll := [0, 1, 2]) rfl ?_
              refine TO.move rfl rfl rfl rfl ?_
              refine TO.addG g54 rfl rfl rfl rfl rfl ?_
              refine TO.assign rfl rfl rfl rfl ?_
              refine TO.done ?_
              refine X.seq_normal ?_
              refine T.seq ?_
              obtain ⟨g55, H⟩ := gd_some H
              obtain ⟨g56, H⟩ := gd_some H
              refine T.drawS 10 [0, 1, 2, 3, 4, 5, 6, 7, 8, 9] rfl mixed (by kernel_rfl) (by kernel_rfl) rfl (by kernel_rfl) ?_
              refine TQ.fieldAddr0 rfl rfl rfl rfl TWBLPreRises.f29_0 ?_
              refine TQ.load1 rfl rfl rfl rfl TWBLPreRises.s26 mm2 rfl ?_
              refine TQ.move rfl rfl rfl rfl ?_
              refine TQ.ixR h_p2f0 g55 rfl rfl rfl rfl rfl TWBLPreRises.l26 TWBLPreRises.n2 ?_
              refine TQ.ldIR h_p2f0 g55 rfl rfl rfl rfl TWBLPreRises.s2 ?_
              refine TQ.fieldAddr0 rfl rfl rfl rfl TWBLPreRises.f29_0 ?_
              refine TQ.load1 rfl rfl rfl rfl TWBLPreRises.s26 mm1 rfl ?_
              refine TQ.move rfl rfl rfl rfl ?_
              refine TQ.ixR h_was1f0 g56 rfl rfl rfl rfl rfl TWBLPreRises.l26 TWBLPreRises.n2 ?_
              refine TQ.ldIR h_was1f0 g56 rfl rfl rfl rfl TWBLPreRises.s2 ?_
              refine TQ.tail [10] rfl rfl ?_
              refine TO.bin rfl rfl rfl rfl rfl rfl ?_
              refine TO.done ?_
              refine X.seq_normal ?_
              refine T.trim (AllF.cons (t := 4) rfl (AllF.cons (t := 5) rfl (AllF.cons (t := 6) rfl (AllF.cons (t := 9) rfl (AllF.cons (t := 10) rfl (AllF.cons (t := 13) rfl (AllF.cons (t := 14) rfl (AllF.cons (t := 106) rfl (AllF.cons (t := 107) rfl (AllF.cons (t := 15) rfl (AllF.cons (t := 133) rfl AllF.nil))))))))))) ?_
              rcases ite_some H with ⟨g57, H⟩ | ⟨g57, H⟩
              ·
                refine T.condPT rfl g57 ?_
                refine T.seq ?_
                obtain ⟨⟨r58, r59⟩, e60, H⟩ := bd_some H
                refine T.regionL (ll := [0, 1, 2, 3, 4, 5, 6, 7]) rfl ?_
                refine TO.loadA rfl rfl rfl rfl TWBLPreRises.a32 mm0 rfl ?_
                refine TO.move rfl rfl rfl rfl ?_
                refine TO.callX TWBLPreRises.c37 rfl rfl rfl rfl (fun wc hwc => w_csr_Tail (c0 := c0) (a1 := x48) wc (h_c0f3.mono hwc) (h_c0f4.mono hwc) (h_c0f5.mono hwc) (h_c0f6.mono hwc) (h_c0f7.mono hwc) (h_c0f8.mono hwc) e60) ?_
                rintro _ _ ⟨rfl, rfl⟩
                refine TO.move rfl rfl rfl rfl ?_
                refine TO.extract rfl rfl rfl rfl rfl ?_
                refine TO.extract rfl rfl rfl rfl rfl ?_
                refine TO.assign rfl rfl rfl rfl ?_
                refine TO.assign rfl rfl rfl rfl ?_
                refine TO.done ?_
                refine X.seq_normal ?_
                refine T.trim (AllF.cons (t := 4) rfl (AllF.cons (t := 5) rfl (AllF.cons (t := 6) rfl (AllF.cons (t := 9) rfl (AllF.cons (t := 10) rfl (AllF.cons (t := 13) rfl (AllF.cons (t := 106) rfl (AllF.cons (t := 107) rfl (AllF.cons (t := 15) rfl (AllF.cons (t := 16) rfl AllF.nil)))))))))) ?_
                obtain ⟨g61, H⟩ := gd_some H
                rcases ite_some H with ⟨g62, H⟩ | ⟨g62, H⟩
                ·
                  refine T.regionL (ll := [0, 1, 2, 3, 4, 5, 6, 7, 8, 9, 10, 11, 12, 13, 14]) rfl ?_
                  refine TO.fieldAddr0 rfl rfl rfl rfl TWBLPreRises.f29_0 ?_
                  refine TO.load1 rfl rfl rfl rfl TWBLPreRises.s26 mm2 rfl ?_
                  refine TO.move rfl rfl rfl rfl ?_
                  refine TO.ixR h_p2f0 g61 rfl rfl rfl rfl rfl TWBLPreRises.l26 TWBLPreRises.n2 ?_
                  refine TO.ldIR h_p2f0 g61 rfl rfl rfl rfl TWBLPreRises.s2 ?_
                  refine TO.bin rfl rfl rfl rfl rfl rfl ?_
                  refine TO.move rfl rfl rfl rfl ?_
                  refine TO.decB (t := 146) (b' := true) rfl (decide_eq_true g62) ?_
                  refine TO.shut rfl rfl rfl rfl ?_
                  refine TO.shut rfl rfl rfl rfl ?_
                  refine TO.shut rfl rfl rfl rfl ?_
                  refine TO.shut rfl rfl rfl rfl ?_
                  refine TO.shut rfl rfl rfl rfl ?_
                  refine TO.shut rfl rfl rfl rfl ?_
                  refine TO.pickT rfl rfl rfl rfl rfl ?_
                  refine TO.assign rfl rfl rfl rfl ?_
                  refine TO.done ?_
                  refine X.block_normal ?_
                  refine X.seq_normal ?_
                  refine T.trim (AllF.cons (t := 4) rfl (AllF.cons (t := 5) rfl (AllF.cons (t := 6) rfl (AllF.cons (t := 9) rfl (AllF.cons (t := 10) rfl (AllF.cons (t := 13) rfl (AllF.cons (t := 106) rfl (AllF.cons (t := 107) rfl (AllF.cons (t := 147) rfl (AllF.cons (t := 148) rfl (AllF.cons (t := 149) rfl (AllF.cons (t := 150) rfl (AllF.cons (t := 151) rfl (AllF.cons (t := 152) rfl (AllF.cons (t := 14) rfl AllF.nil))))))))))))))) ?_
                  obtain ⟨g63, H⟩ := gd_some H
                  refine T.regionL (ll := [0, 1]) rfl ?_
                  refine TO.addG g63 rfl rfl rfl rfl rfl ?_
                  refine TO.move rfl rfl rfl rfl ?_
                  refine TO.done ?_
                  have H := loop_next H C_4
                  exact X.againE4 n_4 (changed46 + 1) true (x48 + 1) H (Nat.lt_succ_self _) (AllF.cons rfl (AllF.cons rfl (AllF.cons rfl (AllF.cons rfl (AllF.cons rfl (AllF.cons rfl (AllF.cons rfl (AllF.cons rfl (AllF.cons rfl AllF.nil))))))))) (Pick.cons tk0 (Pick.cons tk0 (Pick.cons tk0 (Pick.cons tk0 Pick.nil))))
                ·
                  obtain ⟨g64, H⟩ := gd_some H
                  refine T.regionL (ll := [0, 1, 2, 3, 4, 5, 6, 7, 8, 9, 10, 11, 12, 13, 14]) rfl ?_
                  refine TO.fieldAddr0 rfl rfl rfl rfl TWBLPreRises.f29_0 ?_
                  refine TO.load1 rfl rfl rfl rfl TWBLPreRises.s26 mm2 rfl ?_
                  refine TO.move rfl rfl rfl rfl ?_
                  refine TO.ixR h_p2f0 g61 rfl rfl rfl rfl rfl TWBLPreRises.l26 TWBLPreRises.n2 ?_
                  refine TO.ldIR h_p2f0 g61 rfl rfl rfl rfl TWBLPreRises.s2 ?_
                  refine TO.bin rfl rfl rfl rfl rfl rfl ?_
                  refine TO.move rfl rfl rfl rfl ?_
                  refine TO.decB (t := 146) (b' := false) rfl (decide_eq_false g62) ?_
                  refine TO.fieldAddr0 rfl rfl rfl rfl TWBLPreRises.f29_1 ?_
                  refine TO.load1 rfl rfl rfl rfl TWBLPreRises.s26 mm2 rfl ?_
                  refine TO.move rfl rfl rfl rfl ?_
                  refine TO.ixR h_p2f1 g64 rfl rfl rfl rfl rfl TWBLPreRises.l26 TWBLPreRises.n2 ?_
                  refine TO.ldIR h_p2f1 g64 rfl rfl rfl rfl TWBLPreRises.s2 ?_
                  refine TO.bin rfl rfl rfl rfl rfl rfl ?_
                  refine TO.pickF rfl rfl rfl rfl rfl ?_
                  refine TO.assign rfl rfl rfl rfl ?_
                  refine TO.done ?_
                  refine X.block_normal ?_
                  refine X.seq_normal ?_
                  refine T.trim (AllF.cons (t := 4) rfl (AllF.cons (t := 5) rfl (AllF.cons (t := 6) rfl (AllF.cons (t := 9) rfl (AllF.cons (t := 10) rfl (AllF.cons (t := 13) rfl (AllF.cons (t := 106) rfl (AllF.cons (t := 107) rfl (AllF.cons (t := 147) rfl (AllF.cons (t := 148) rfl (AllF.cons (t := 149) rfl (AllF.cons (t := 150) rfl (AllF.cons (t := 151) rfl (AllF.cons (t := 152) rfl (AllF.cons (t := 14) rfl AllF.nil))))))))))))))) ?_
                  obtain ⟨g65, H⟩ := gd_some H
                  refine T.regionL (ll := [0, 1]) rfl ?_
                  refine TO.addG g65 rfl rfl rfl rfl rfl ?_
                  refine TO.move rfl rfl rfl rfl ?_
                  refine TO.done ?_
                  have H := loop_next H C_4
                  exact X.againE4 n_4 (changed46 + 1) (decide ((p2.Ex.getD r58.toNat 0) = 0)) (x48 + 1) H (Nat.lt_succ_self _) (AllF.cons rfl (AllF.cons rfl (AllF.cons rfl (AllF.cons rfl (AllF.cons rfl (AllF.cons rfl (AllF.cons rfl (AllF.cons rfl (AllF.cons rfl AllF.nil))))))))) (Pick.cons tk0 (Pick.cons tk0 (Pick.cons tk0 (Pick.cons tk0 Pick.nil))))
              ·
                refine T.condPF rfl g57 ?_
                refine T.skip ?_
                refine X.block_normal ?_
                refine X.seq_normal ?_
                obtain ⟨g66, H⟩ := gd_some H
                refine T.regionL (ll := [0, 1]) rfl ?_
                refine TO.addG g66 rfl rfl rfl rfl rfl ?_
                refine TO.move rfl rfl rfl rfl ?_
                refine TO.done ?_
                have H := loop_next H C_4
                exact X.againE4 n_4 (changed46 + 1) used47 (x48 + 1) H (Nat.lt_succ_self _) (AllF.cons rfl (AllF.cons rfl (AllF.cons rfl (AllF.cons rfl (AllF.cons rfl (AllF.cons rfl (AllF.cons rfl (AllF.cons rfl (AllF.cons rfl AllF.nil))))))))) (Pick.cons tk0 (Pick.cons tk0 (Pick.cons tk0 (Pick.cons tk0 Pick.nil))))
          ·
            refine T.condPF rfl g49 ?_
            refine T.exit ?_
            refine X.then_exit ?_
            have H := loop_exitE H C_4 ▸ K_4
            refine X.then_exit ?_
            refine X.block_here ?_
            exact X.metE2 changed46 used47 H (AllF.cons rfl (AllF.cons rfl (AllF.cons rfl (AllF.cons rfl AllF.nil)))) (Pick.cons tk3 Pick.nil)
        · rintro changed67 used68 H
          unfold m_acequialaw07_PreRises_1_j5 at H
          refine T.seq ?_
          rcases ite_some H with ⟨g69, H⟩ | ⟨g69, H⟩
          ·
            rcases ite_some H with ⟨g70, H⟩ | ⟨g70, H⟩
            ·
              rcases ite_some H with ⟨g71, H⟩ | ⟨g71, H⟩
              ·
                refine T.regionL (ll := [0, 1, 2, 3, 4, 5, 6, 7, 8, 9, 10, 11, 12, 13]) rfl ?_
                refine TO.move rfl rfl rfl rfl ?_
                refine TO.bin rfl rfl rfl rfl rfl rfl ?_
                refine TO.move rfl rfl rfl rfl ?_
                refine TO.decB (t := 157) (b' := true) rfl (decide_eq_true g69) ?_
                refine TO.move rfl rfl rfl rfl ?_
                refine TO.pickT rfl rfl rfl rfl rfl ?_
                refine TO.move rfl rfl rfl rfl ?_
                refine TO.decB (t := 160) (b' := true) rfl g70 ?_
                refine TO.move rfl rfl rfl rfl ?_
                refine TO.bin rfl rfl rfl rfl rfl rfl ?_
                refine TO.pickT rfl rfl rfl rfl rfl ?_
                refine TO.move rfl rfl rfl rfl ?_
                refine TO.decB (t := 164) (b' := true) rfl (decide_eq_true g71) ?_
                refine TO.move rfl rfl rfl rfl ?_
                refine TO.bin rfl rfl rfl rfl rfl rfl ?_
                refine TO.pickT rfl rfl rfl rfl rfl ?_
                refine TO.assign rfl rfl rfl rfl ?_
                refine TO.done ?_
                refine X.seq_normal ?_
                refine T.trim (AllF.cons (t := 7) rfl AllF.nil) ?_
                refine T.ret ?_
                obtain ⟨rfl, rfl⟩ := ret2 H
                exact X.ret1 rfl rfl rfl rfl (Res.tmp rfl) (Pick.cons tk0 Pick.nil) ⟨rfl, rfl⟩
              ·
                refine T.regionL (ll := [0, 1, 2, 3, 4, 5, 6, 7, 8, 9, 10, 11, 12, 13]) rfl ?_
                refine TO.move rfl rfl rfl rfl ?_
                refine TO.bin rfl rfl rfl rfl rfl rfl ?_
                refine TO.move rfl rfl rfl rfl ?_
                refine TO.decB (t := 157) (b' := true) rfl (decide_eq_true g69) ?_
                refine TO.move rfl rfl rfl rfl ?_
                refine TO.pickT rfl rfl rfl rfl rfl ?_
                refine TO.move rfl rfl rfl rfl ?_
                refine TO.decB (t := 160) (b' := true) rfl g70 ?_
                refine TO.move rfl rfl rfl rfl ?_
                refine TO.bin rfl rfl rfl rfl rfl rfl ?_
                refine TO.pickT rfl rfl rfl rfl rfl ?_
                refine TO.move rfl rfl rfl rfl ?_
                refine TO.decB (t := 164) (b' := false) rfl (decide_eq_false g71) ?_
                refine TO.shut rfl rfl rfl rfl ?_
                refine TO.shut rfl rfl rfl rfl ?_
                refine TO.pickF rfl rfl rfl rfl rfl ?_
                refine TO.assign rfl rfl rfl rfl ?_
                refine TO.done ?_
                refine X.seq_normal ?_
                refine T.trim (AllF.cons (t := 7) rfl AllF.nil) ?_
                refine T.ret ?_
                obtain ⟨rfl, rfl⟩ := ret2 H
                exact X.ret1 rfl rfl rfl rfl (Res.tmp rfl) (Pick.cons tk0 Pick.nil) ⟨rfl, rfl⟩
            ·
              refine T.regionL (ll := [0, 1, 2, 3, 4, 5, 6, 7, 8, 9, 10, 11, 12, 13]) rfl ?_
              refine TO.move rfl rfl rfl rfl ?_
              refine TO.bin rfl rfl rfl rfl rfl rfl ?_
              refine TO.move rfl rfl rfl rfl ?_
              refine TO.decB (t := 157) (b' := true) rfl (decide_eq_true g69) ?_
              refine TO.move rfl rfl rfl rfl ?_
              refine TO.pickT rfl rfl rfl rfl rfl ?_
              refine TO.move rfl rfl rfl rfl ?_
              refine TO.decB (t := 160) (b' := false) rfl (Bool.eq_false_iff.2 g70) ?_
              refine TO.shut rfl rfl rfl rfl ?_
              refine TO.shut rfl rfl rfl rfl ?_
              refine TO.pickF rfl rfl rfl rfl rfl ?_
              refine TO.move rfl rfl rfl rfl ?_
              refine TO.shut rfl rfl rfl rfl ?_
              refine TO.shut rfl rfl rfl rfl ?_
              refine TO.pickF rfl rfl rfl rfl rfl ?_
              refine TO.assign rfl rfl rfl rfl ?_
              refine TO.done ?_
              refine X.seq_normal ?_
              refine T.trim (AllF.cons (t := 7) rfl AllF.nil) ?_
              refine T.ret ?_
              obtain ⟨rfl, rfl⟩ := ret2 H
              exact X.ret1 rfl rfl rfl rfl (Res.tmp rfl) (Pick.cons tk0 Pick.nil) ⟨rfl, rfl⟩
          ·
            refine T.regionL (ll := [0, 1, 2, 3, 4, 5, 6, 7, 8, 9, 10, 11, 12, 13]) rfl ?_
            refine TO.move rfl rfl rfl rfl ?_
            refine TO.bin rfl rfl rfl rfl rfl rfl ?_
            refine TO.move rfl rfl rfl rfl ?_
            refine TO.decB (t := 157) (b' := false) rfl (decide_eq_false g69) ?_
            refine TO.shut rfl rfl rfl rfl ?_
            refine TO.pickF rfl rfl rfl rfl rfl ?_
            refine TO.move rfl rfl rfl rfl ?_
            refine TO.shut rfl rfl rfl rfl ?_
            refine TO.shut rfl rfl rfl rfl ?_
            refine TO.pickF rfl rfl rfl rfl rfl ?_
            refine TO.move rfl rfl rfl rfl ?_
            refine TO.shut rfl rfl rfl rfl ?_
            refine TO.shut rfl rfl rfl rfl ?_
            refine TO.pickF rfl rfl rfl rfl rfl ?_
            refine TO.assign rfl rfl rfl rfl ?_
            refine TO.done ?_
            refine X.seq_normal ?_
            refine T.trim (AllF.cons (t := 7) rfl AllF.nil) ?_
            refine T.ret ?_
            obtain ⟨rfl, rfl⟩ := ret2 H
            exact X.ret1 rfl rfl rfl rfl (Res.tmp rfl) (Pick.cons tk0 Pick.nil) ⟨rfl, rfl⟩
/-- acequia/acequialaw07.Play -/
theorem w_acequialaw07_Play_PreRises_1 {n0 : Net} {moves1 : List Int} {each2_0 : Bool} {n0f3_b : Option Addr} {n0f3_n : Nat} {n0f3_c : Nat} {moves1_b : Option Addr} {moves1_n : Nat} {moves1_c : Nat} {each2_0_k : Nat} (w : World) (hin : Inv w (([(some each2_0_k, .cells #[.bool each2_0] 4 (0, 0))] : Heap).filterMap (·.1)) w [(some each2_0_k, .cells #[.bool each2_0] 4 (0, 0))]) (h_n0f3 : RS w (([(some each2_0_k, .cells #[.bool each2_0] 4 (0, 0))] : Heap).filterMap (·.1)) arcC 3 n0f3_b n0f3_n n0f3_c n0.Arcs) (h_moves1 : RS w (([(some each2_0_k, .cells #[.bool each2_0] 4 (0, 0))] : Heap).filterMap (·.1)) (intC .u8) 1 moves1_b moves1_n moves1_c moves1) {r0 : Bool} {o0 : Bool} (H : m_acequialaw07_Play_PreRises_1 n0 moves1 each2_0 = some (r0, o0)) : Fnc Try.prog 34 #[.agg #[.int .i64 n0.N, .int .i64 n0.S, .int .i64 n0.T, .slice n0f3_b n0f3_n n0f3_c], .slice moves1_b moves1_n moves1_c, .func (.func 38) #[] #[.pointer (some ⟨each2_0_k, 0, none⟩)]] w (([(some each2_0_k, .cells #[.bool each2_0] 4 (0, 0))] : Heap).filterMap (·.1)) (fun v N => v = .bool r0 ∧ N = [(some each2_0_k, .cells #[.bool o0] 4 (0, 0))]) := by
  unfold m_acequialaw07_Play_PreRises_1 at H
  refine Fnc.enter (vs := [.agg #[.int .i64 n0.N, .int .i64 n0.S, .int .i64 n0.T, .slice n0f3_b n0f3_n n0f3_c], .slice moves1_b moves1_n moves1_c, .func (.func 38) #[] #[.pointer (some ⟨each2_0_k, 0, none⟩)]]) Try.func34 rfl rfl hin ?_
  refine T.seq ?_
  refine T.regionL (ll := [0, 1]) rfl ?_
  refine TO.boxA rfl rfl rfl rfl ?_; intro b2
  refine TO.assign rfl rfl rfl rfl ?_
  refine TO.done ?_
  refine X.seq_normal ?_
  refine T.seq ?_
  obtain ⟨⟨r4, r5⟩, e6, H⟩ := bd_some H
  refine T.regionL (ll := [0, 1, 2, 3, 4, 5, 6, 7]) rfl ?_
  refine TO.loadA rfl rfl rfl rfl TWBLPreRises.a24 mm0 rfl ?_
  refine TO.callX TWBLPreRises.c51 rfl rfl rfl rfl (fun wc hwc => w_csr_Make (n0 := n0) wc (h_n0f3.mono hwc) e6) ?_
  rintro _ _ ⟨ob7, n8, c9, j10, ob11, n12, c13, j14, ob15, n16, c17, j18, ob19, n20, c21, j22, ob23, n24, c25, j26, ob27, n28, c29, j30, rfl, rfl, hn31, hc32, hj33, hz34, hn35, hc36, hj37, hz38, hn39, hc40, hj41, hz42, hn43, hc44, hj45, hz46, hn47, hc48, hj49, hz50, hn51, hc52, hj53, hz54⟩
  refine TO.move rfl rfl rfl rfl ?_
  refine TO.extract rfl rfl rfl rfl rfl ?_
  refine TO.extract rfl rfl rfl rfl rfl ?_
  refine TO.allocA rfl rfl rfl TWBLPreRises.z32 ?_; intro b61
  refine TO.storeA rfl rfl rfl rfl tk0 TWBLPreRises.n32 rfl rfl rfl ?_
  refine TO.assign rfl rfl rfl rfl ?_
  refine TO.done ?_
  refine X.seq_normal ?_
  refine T.trim (AllF.cons (t := 1) rfl (AllF.cons (t := 2) rfl (AllF.cons (t := 7) rfl (AllF.cons (t := 8) rfl AllF.nil)))) ?_
  refine T.seq ?_
  refine T.seq ?_
  refine T.regionL (ll := [0, 1]) rfl ?_
  refine TO.move rfl rfl rfl rfl ?_
  refine TO.bin rfl rfl rfl rfl rfl rfl ?_
  refine TO.done ?_
  refine X.seq_normal ?_
  rcases ite_some H with ⟨g63, H⟩ | ⟨g63, H⟩
  ·
    refine T.condPT rfl g63 ?_
    refine T.seq ?_
    refine T.regionL (ll := [0]) rfl ?_
    refine TO.assign rfl rfl rfl rfl ?_
    refine TO.done ?_
    refine X.seq_normal ?_
    refine T.ret ?_
    refine X.then_ret ?_
    obtain ⟨rfl, rfl⟩ := ret2 H
    exact X.ret1 rfl rfl rfl rfl (Res.tmp rfl) (Pick.cons tk8 Pick.nil) ⟨rfl, rfl⟩
  ·
    refine T.condPF rfl g63 ?_
    refine T.skip ?_
    refine X.seq_normal ?_
    refine T.seq ?_
    obtain ⟨r64, e65, H⟩ := bd_some H
    refine T.regionL (ll := [0, 1, 2, 3]) rfl ?_
    refine TO.loadA rfl rfl rfl rfl TWBLPreRises.a32 mm0 rfl ?_
    refine TO.callX TWBLPreRises.c17 rfl rfl rfl rfl (fun wc hwc => w_pre_Begin (c0 := r4) wc (hwc.rs (f := (intC .i64)) (s := 1) (xs := r4.First) (j := j10) (fun _ => rfl) mm1 hn31 hc32 hz34) (hwc.rs (f := (intC .i64)) (s := 1) (xs := r4.Head) (j := j14) (fun _ => rfl) mm2 hn35 hc36 hz38) (hwc.rs (f := (intC .i64)) (s := 1) (xs := r4.Rev) (j := j18) (fun _ => rfl) mm3 hn39 hc40 hz42) (hwc.rs (f := (intC .i64)) (s := 1) (xs := r4.Cap) (j := j22) (fun _ => rfl) mm4 hn43 hc44 hz46) (hwc.rs (f := (intC .i64)) (s := 1) (xs := r4.Arc) (j := j26) (fun _ => rfl) mm5 hn47 hc48 hz50) (hwc.rs (f := boolC) (s := 1) (xs := r4.Back) (j := j30) (fun _ => rfl) mm6 hn51 hc52 hz54) e65) ?_
    rintro _ _ ⟨ob66, n67, c68, j69, ob70, n71, c72, j73, ob74, n75, c76, j77, rfl, rfl, hn78, hc79, hj80, hz81, hn82, hc83, hj84, hz85, hn86, hc87, hj88, hz89⟩
    refine TO.allocA rfl rfl rfl TWBLPreRises.z29 ?_; intro b93
    refine TO.storeA rfl rfl rfl rfl tk0 TWBLPreRises.n29 rfl rfl rfl ?_
    refine TO.done ?_
    refine X.seq_normal ?_
    refine T.seq ?_
    refine T.seq ?_
    obtain ⟨⟨r95, r96⟩, e97, H⟩ := bd_some H
    refine T.regionL (ll := [0, 1, 2, 3, 4, 5]) rfl ?_
    refine TO.move rfl rfl rfl rfl ?_
    refine TO.loadA rfl rfl rfl rfl TWBLPreRises.a32 mm4 rfl ?_
    refine TO.loadA rfl rfl rfl rfl TWBLPreRises.a29 mm0 rfl ?_
    refine TO.loadA rfl rfl rfl rfl TWBLPreRises.a29 mm0 rfl ?_
    refine TO.callVXM TWBLPreRises.c38 rfl rfl rfl rfl rfl (Take.gone tk12 (Gone.refl _)) rfl (fun wc hwc => w_acequialaw07_PreRises_1 (c0 := r4) (was1 := r64) (p2 := r64) (c3 := each2_0) wc (hwc.self (Pick.cons tk12 Pick.nil) rfl) (hwc.rsM (f := (intC .i64)) (s := 1) (xs := r4.First) (j := j10) (fun _ => rfl) (Take.gone tk12 (Gone.refl _)) rfl mm5 hn31 hc32 hz34) (hwc.rsM (f := (intC .i64)) (s := 1) (xs := r4.Head) (j := j14) (fun _ => rfl) (Take.gone tk12 (Gone.refl _)) rfl mm6 hn35 hc36 hz38) (hwc.rsM (f := (intC .i64)) (s := 1) (xs := r4.Rev) (j := j18) (fun _ => rfl) (Take.gone tk12 (Gone.refl _)) rfl mm7 hn39 hc40 hz42) (hwc.rsM (f := (intC .i64)) (s := 1) (xs := r4.Cap) (j := j22) (fun _ => rfl) (Take.gone tk12 (Gone.refl _)) rfl mm8 hn43 hc44 hz46) (hwc.rsM (f := (intC .i64)) (s := 1) (xs := r4.Arc) (j := j26) (fun _ => rfl) (Take.gone tk12 (Gone.refl _)) rfl mm9 hn47 hc48 hz50) (hwc.rsM (f := boolC) (s := 1) (xs := r4.Back) (j := j30) (fun _ => rfl) (Take.gone tk12 (Gone.refl _)) rfl mm10 hn51 hc52 hz54) (hwc.rsM (f := (intC .i64)) (s := 1) (xs := r64.Res) (j := j69) (fun _ => rfl) (Take.gone tk12 (Gone.refl _)) rfl mm1 hn78 hc79 hz81) (hwc.rsM (f := (intC .i64)) (s := 1) (xs := r64.Ex) (j := j73) (fun _ => rfl) (Take.gone tk12 (Gone.refl _)) rfl mm2 hn82 hc83 hz85) (hwc.rsM (f := (intC .i64)) (s := 1) (xs := r64.H) (j := j77) (fun _ => rfl) (Take.gone tk12 (Gone.refl _)) rfl mm3 hn86 hc87 hz89) (hwc.rsM (f := (intC .i64)) (s := 1) (xs := r64.Res) (j := j69) (fun _ => rfl) (Take.gone tk12 (Gone.refl _)) rfl mm1 hn78 hc79 hz81) (hwc.rsM (f := (intC .i64)) (s := 1) (xs := r64.Ex) (j := j73) (fun _ => rfl) (Take.gone tk12 (Gone.refl _)) rfl mm2 hn82 hc83 hz85) (hwc.rsM (f := (intC .i64)) (s := 1) (xs := r64.H) (j := j77) (fun _ => rfl) (Take.gone tk12 (Gone.refl _)) rfl mm3 hn86 hc87 hz89) e97) ?_
    rintro _ _ ⟨rfl, rfl⟩
    refine TO.not rfl rfl rfl rfl ?_
    refine TO.done ?_
    refine X.seq_normal ?_
    refine T.trim (AllF.cons (t := 1) rfl (AllF.cons (t := 2) rfl (AllF.cons (t := 7) rfl (AllF.cons (t := 9) rfl (AllF.cons (t := 31) rfl AllF.nil))))) ?_
    rcases ite_some H with ⟨g98, H⟩ | ⟨g98, H⟩
    ·
      refine T.condT rfl g98 ?_
      refine T.seq ?_
      refine T.regionL (ll := [0]) rfl ?_
      refine TO.assign rfl rfl rfl rfl ?_
      refine TO.done ?_
      refine X.seq_normal ?_
      refine T.ret ?_
      refine X.then_ret ?_
      obtain ⟨rfl, rfl⟩ := ret2 H
      exact X.ret1 rfl rfl rfl rfl (Res.tmp rfl) (Pick.cons tk0 Pick.nil) ⟨rfl, rfl⟩
    ·
      refine T.condF rfl (Bool.eq_false_iff.2 g98) ?_
      refine T.skip ?_
      refine X.seq_normal ?_
      refine T.seq ?_
      refine T.seq ?_
      refine T.regionL (ll := [0, 1, 2]) rfl ?_
      refine TO.move rfl rfl rfl rfl ?_
      refine TO.lenX (xs := moves1) h_moves1.len rfl rfl rfl rfl rfl TWBLPreRises.l25 ?_
      refine TO.move rfl rfl rfl rfl ?_
      refine TO.done ?_
      refine X.seq_normal ?_
      refine T.meetSE1 (fun (each2_266 : Bool) => m_acequialaw07_Play_PreRises_1_j4 each2_266 = some (r0, o0)) (fun (each2_266 : Bool) => []) (fun (each2_266 : Bool) => [(some each2_0_k, .cells #[.bool each2_266] 4 (0, 0))]) ?_ ?_
      ·
        refine T.block ?_
        obtain ⟨o_1, e_1, K_1⟩ := bd_some H
        refine T.loopE18 (fun (m_1 : Nat) (each2_99 : Bool) (Res100 : List Int) (n101 : Nat) (c102 : Nat) (ob103 : Option Nat) (j104 : List Value) (Ex110 : List Int) (n111 : Nat) (c112 : Nat) (ob113 : Option Nat) (j114 : List Value) (H120 : List Int) (n121 : Nat) (c122 : Nat) (ob123 : Option Nat) (j124 : List Value) (x130 : Int) => loopM (fun s => m_acequialaw07_Play_PreRises_1_s1 moves1 r4 s.1 s.2.1 s.2.2.1 s.2.2.2.1 s.2.2.2.2) m_1 (each2_99, Res100, Ex110, H120, x130) = some o_1 ∧ Res100.length = n101 ∧ n101 ≤ c102 ∧ j104.length = (c102 - n101) * 1 ∧ (ob103 = none → c102 = 0) ∧ Ex110.length = n111 ∧ n111 ≤ c112 ∧ j114.length = (c112 - n111) * 1 ∧ (ob113 = none → c112 = 0) ∧ H120.length = n121 ∧ n121 ≤ c122 ∧ j124.length = (c122 - n121) * 1 ∧ (ob123 = none → c122 = 0)) (fun (m_1 : Nat) (each2_99 : Bool) (Res100 : List Int) (n101 : Nat) (c102 : Nat) (ob103 : Option Nat) (j104 : List Value) (Ex110 : List Int) (n111 : Nat) (c112 : Nat) (ob113 : Option Nat) (j114 : List Value) (H120 : List Int) (n121 : Nat) (c122 : Nat) (ob123 : Option Nat) (j124 : List Value) (x130 : Int) => [(2, .func (.func 38) #[] #[.pointer (some ⟨each2_0_k, 0, none⟩)]), (7, .pointer (some ⟨b61, 0, none⟩)), (9, .pointer (some ⟨b93, 0, none⟩)), (32, .slice moves1_b moves1_n moves1_c), (33, .int .i64 (moves1.length : Int)), (34, .int .i64 x130)]) (fun (m_1 : Nat) (each2_99 : Bool) (Res100 : List Int) (n101 : Nat) (c102 : Nat) (ob103 : Option Nat) (j104 : List Value) (Ex110 : List Int) (n111 : Nat) (c112 : Nat) (ob113 : Option Nat) (j114 : List Value) (H120 : List Int) (n121 : Nat) (c122 : Nat) (ob123 : Option Nat) (j124 : List Value) (x130 : Int) => [(some each2_0_k, .cells #[.bool each2_99] 4 (0, 0)), (some b61, .cells #[.int .i64 r4.N, .int .i64 r4.S, .int .i64 r4.T, .slice (sb ob7) n8 c9, .slice (sb ob11) n12 c13, .slice (sb ob15) n16 c17, .slice (sb ob19) n20 c21, .slice (sb ob23) n24 c25, .slice (sb ob27) n28 c29] 32 (0, 0)), (ob7, .cells (arr (intC .i64) r4.First j10).toArray 3 (0, 0)), (ob11, .cells (arr (intC .i64) r4.Head j14).toArray 3 (0, 0)), (ob15, .cells (arr (intC .i64) r4.Rev j18).toArray 3 (0, 0)), (ob19, .cells (arr (intC .i64) r4.Cap j22).toArray 2 (0, 0)), (ob23, .cells (arr (intC .i64) r4.Arc j26).toArray 3 (0, 0)), (ob27, .cells (arr boolC r4.Back j30).toArray 4 (0, 0)), (some b93, .cells #[.slice (sb ob103) n101 c102, .slice (sb ob113) n111 c112, .slice (sb ob123) n121 c122] 29 (0, 0)), (ob103, .cells (arr (intC .i64) Res100 j104).toArray 2 (0, 0)), (ob113, .cells (arr (intC .i64) Ex110 j114).toArray 2 (0, 0)), (ob123, .cells (arr (intC .i64) H120 j124).toArray 3 (0, 0))]) (fun (m_1 : Nat) (each2_99 : Bool) (Res100 : List Int) (n101 : Nat) (c102 : Nat) (ob103 : Option Nat) (j104 : List Value) (Ex110 : List Int) (n111 : Nat) (c112 : Nat) (ob113 : Option Nat) (j114 : List Value) (H120 : List Int) (n121 : Nat) (c122 : Nat) (ob123 : Option Nat) (j124 : List Value) (x130 : Int) => m_1) FUEL r96 r64.Res n67 c68 ob66 j69 r64.Ex n71 c72 ob70 j73 r64.H n75 c76 ob74 j77 0 ⟨e_1, hn78, hc79, hj80, hz81, hn82, hc83, hj84, hz85, hn86, hc87, hj88, hz89⟩ (AllF.cons rfl (AllF.cons rfl (AllF.cons rfl (AllF.cons rfl (AllF.cons rfl (AllF.cons rfl AllF.nil)))))) (Pick.cons tk0 (Pick.cons tk4 (Pick.cons tk4 (Pick.cons tk4 (Pick.cons tk4 (Pick.cons tk4 (Pick.cons tk4 (Pick.cons tk4 (Pick.cons tk0 (Pick.cons tk0 (Pick.cons tk0 (Pick.cons tk0 Pick.nil)))))))))))) ?_
        rintro m_1 each2_99 Res100 n101 c102 ob103 j104 Ex110 n111 c112 ob113 j114 H120 n121 c122 ob123 j124 x130 ⟨H, hn105, hc106, hj107, hz108, hn115, hc116, hj117, hz118, hn125, hc126, hj127, hz128⟩
        obtain ⟨n_1, r_1, rfl, H, C_1⟩ := loopM_some H
        have H : m_acequialaw07_Play_PreRises_1_s1 moves1 r4 each2_99 Res100 Ex110 H120 x130 = some r_1 := H
        unfold m_acequialaw07_Play_PreRises_1_s1 at H
        refine T.seq ?_
        refine T.regionL (ll := [0]) rfl ?_
        refine TO.bin rfl rfl rfl rfl rfl rfl ?_
        refine TO.done ?_
        refine X.seq_normal ?_
        refine T.seq ?_
        rcases ite_some H with ⟨g131, H⟩ | ⟨g131, H⟩
        ·
          refine T.condPT rfl g131 ?_
          refine T.skip ?_
          refine X.seq_normal ?_
          refine T.seq ?_
          refine T.block ?_
          refine T.seq ?_
          obtain ⟨g132, H⟩ := gd_some H
          refine T.regionL (ll := [0, 1, 2]) rfl ?_
          refine TO.ixR h_moves1 g132 rfl rfl rfl rfl rfl TWBLPreRises.l25 TWBLPreRises.n5 ?_
          refine TO.ldIR h_moves1 g132 rfl rfl rfl rfl TWBLPreRises.s5 ?_
          refine TO.assign rfl rfl rfl rfl ?_
          refine TO.done ?_
          refine X.seq_normal ?_
          refine T.seq ?_
          obtain ⟨⟨r133, r134⟩, e135, H⟩ := bd_some H
          refine T.regionL (ll := [0, 1, 2, 3, 4, 5, 6, 7]) rfl ?_
          refine TO.loadA rfl rfl rfl rfl TWBLPreRises.a32 mm1 rfl ?_
          refine TO.loadA rfl rfl rfl rfl TWBLPreRises.a29 mm8 rfl ?_
          refine TO.callX TWBLPreRises.c23 rfl rfl rfl rfl (fun wc hwc => w_pre_May (c0 := r4) (p1 := (Pre.mk Res100 Ex110 H120)) wc (hwc.rs (f := (intC .i64)) (s := 1) (xs := r4.First) (j := j10) (fun _ => rfl) mm2 hn31 hc32 hz34) (hwc.rs (f := (intC .i64)) (s := 1) (xs := r4.Head) (j := j14) (fun _ => rfl) mm3 hn35 hc36 hz38) (hwc.rs (f := (intC .i64)) (s := 1) (xs := r4.Rev) (j := j18) (fun _ => rfl) mm4 hn39 hc40 hz42) (hwc.rs (f := (intC .i64)) (s := 1) (xs := r4.Cap) (j := j22) (fun _ => rfl) mm5 hn43 hc44 hz46) (hwc.rs (f := (intC .i64)) (s := 1) (xs := r4.Arc) (j := j26) (fun _ => rfl) mm6 hn47 hc48 hz50) (hwc.rs (f := boolC) (s := 1) (xs := r4.Back) (j := j30) (fun _ => rfl) mm7 hn51 hc52 hz54) (hwc.rs (f := (intC .i64)) (s := 1) (xs := Res100) (j := j104) (fun _ => rfl) mm9 hn105 hc106 hz108) (hwc.rs (f := (intC .i64)) (s := 1) (xs := Ex110) (j := j114) (fun _ => rfl) mm10 hn115 hc116 hz118) (hwc.rs (f := (intC .i64)) (s := 1) (xs := H120) (j := j124) (fun _ => rfl) mm11 hn125 hc126 hz128) e135) ?_
          rintro _ _ ⟨ob136, n137, c138, j139, ob140, n141, c142, j143, rfl, rfl, hn144, hc145, hj146, hz147, hn148, hc149, hj150, hz151⟩
          refine TO.move rfl rfl rfl rfl ?_
          refine TO.extract rfl rfl rfl rfl rfl ?_
          refine TO.extract rfl rfl rfl rfl rfl ?_
          refine TO.assign rfl rfl rfl rfl ?_
          refine TO.assign rfl rfl rfl rfl ?_
          refine TO.done ?_
          refine X.seq_normal ?_
          refine T.trim (AllF.cons (t := 2) rfl (AllF.cons (t := 7) rfl (AllF.cons (t := 9) rfl (AllF.cons (t := 32) rfl (AllF.cons (t := 33) rfl (AllF.cons (t := 34) rfl (AllF.cons (t := 11) rfl (AllF.cons (t := 12) rfl (AllF.cons (t := 13) rfl AllF.nil))))))))) ?_
          refine T.seq ?_
          obtain ⟨g154, H⟩ := gd_some H
          refine T.regionL (ll := [0, 1, 2]) rfl ?_
          refine TO.move rfl rfl rfl rfl ?_
          refine TO.convIn rfl rfl rfl rfl TWBLPreRises.o5 TWBLPreRises.i3 (wrap_i64_of g154.1 g154.2) ?_
          refine TO.assign rfl rfl rfl rfl ?_
          refine TO.done ?_
          refine X.seq_normal ?_
          refine T.seq ?_
          refine T.regionL (ll := [0]) rfl ?_
          refine TO.allocA rfl rfl rfl TWBLPreRises.z29 ?_; intro b155
          refine TO.done ?_
          refine X.seq_normal ?_
          refine T.seq ?_
          refine T.regionL (ll := [0]) rfl ?_
          refine TO.assign rfl rfl rfl rfl ?_
          refine TO.done ?_
          refine X.seq_normal ?_
          refine T.seq ?_
          refine T.meetSE16 (fun (Res229 : List Int) (n230 : Nat) (c231 : Nat) (ob232 : Option Nat) (j233 : List Value) (Ex239 : List Int) (n240 : Nat) (c241 : Nat) (ob242 : Option Nat) (j243 : List Value) (H249 : List Int) (n250 : Nat) (c251 : Nat) (ob252 : Option Nat) (j253 : List Value) (f259 : Int) => m_acequialaw07_Play_PreRises_1_j3 r4 each2_99 Res100 Ex110 H120 x130 Res229 Ex239 H249 f259 = some r_1 ∧ Res229.length = n230 ∧ n230 ≤ c231 ∧ j233.length = (c231 - n230) * 1 ∧ (ob232 = none → c231 = 0) ∧ Ex239.length = n240 ∧ n240 ≤ c241 ∧ j243.length = (c241 - n240) * 1 ∧ (ob242 = none → c241 = 0) ∧ H249.length = n250 ∧ n250 ≤ c251 ∧ j253.length = (c251 - n250) * 1 ∧ (ob252 = none → c251 = 0)) (fun (Res229 : List Int) (n230 : Nat) (c231 : Nat) (ob232 : Option Nat) (j233 : List Value) (Ex239 : List Int) (n240 : Nat) (c241 : Nat) (ob242 : Option Nat) (j243 : List Value) (H249 : List Int) (n250 : Nat) (c251 : Nat) (ob252 : Option Nat) (j253 : List Value) (f259 : Int) => [(2, .func (.func 38) #[] #[.pointer (some ⟨each2_0_k, 0, none⟩)]), (7, .pointer (some ⟨b61, 0, none⟩)), (9, .pointer (some ⟨b93, 0, none⟩)), (15, .pointer (some ⟨b155, 0, none⟩)), (16, .int .i64 f259), (32, .slice moves1_b moves1_n moves1_c), (33, .int .i64 (moves1.length : Int)), (34, .int .i64 x130)]) (fun (Res229 : List Int) (n230 : Nat) (c231 : Nat) (ob232 : Option Nat) (j233 : List Value) (Ex239 : List Int) (n240 : Nat) (c241 : Nat) (ob242 : Option Nat) (j243 : List Value) (H249 : List Int) (n250 : Nat) (c251 : Nat) (ob252 : Option Nat) (j253 : List Value) (f259 : Int) => [(some each2_0_k, .cells #[.bool each2_99] 4 (0, 0)), (some b61, .cells #[.int .i64 r4.N, .int .i64 r4.S, .int .i64 r4.T, .slice (sb ob7) n8 c9, .slice (sb ob11) n12 c13, .slice (sb ob15) n16 c17, .slice (sb ob19) n20 c21, .slice (sb ob23) n24 c25, .slice (sb ob27) n28 c29] 32 (0, 0)), (ob7, .cells (arr (intC .i64) r4.First j10).toArray 3 (0, 0)), (ob11, .cells (arr (intC .i64) r4.Head j14).toArray 3 (0, 0)), (ob15, .cells (arr (intC .i64) r4.Rev j18).toArray 3 (0, 0)), (ob19, .cells (arr (intC .i64) r4.Cap j22).toArray 2 (0, 0)), (ob23, .cells (arr (intC .i64) r4.Arc j26).toArray 3 (0, 0)), (ob27, .cells (arr boolC r4.Back j30).toArray 4 (0, 0)), (some b93, .cells #[.slice (sb ob103) n101 c102, .slice (sb ob113) n111 c112, .slice (sb ob123) n121 c122] 29 (0, 0)), (ob103, .cells (arr (intC .i64) Res100 j104).toArray 2 (0, 0)), (ob113, .cells (arr (intC .i64) Ex110 j114).toArray 2 (0, 0)), (ob123, .cells (arr (intC .i64) H120 j124).toArray 3 (0, 0)), (some b155, .cells #[.slice (sb ob232) n230 c231, .slice (sb ob242) n240 c241, .slice (sb ob252) n250 c251] 29 (0, 0)), (ob232, .cells (arr (intC .i64) Res229 j233).toArray 2 (0, 0)), (ob242, .cells (arr (intC .i64) Ex239 j243).toArray 2 (0, 0)), (ob252, .cells (arr (intC .i64) H249 j253).toArray 3 (0, 0))]) ?_ ?_
          ·
            refine T.block ?_
            refine T.seq ?_
            refine T.meetSE1 (fun (x159 : Bool) => m_acequialaw07_Play_PreRises_1_j2 moves1 r4 each2_99 Res100 Ex110 H120 x130 r133 r134 x159 = some r_1) (fun (x159 : Bool) => [(2, .func (.func 38) #[] #[.pointer (some ⟨each2_0_k, 0, none⟩)]), (7, .pointer (some ⟨b61, 0, none⟩)), (9, .pointer (some ⟨b93, 0, none⟩)), (12, .slice (sb ob136) n137 c138), (13, .slice (sb ob140) n141 c142), (14, .int .i64 (moves1.getD x130.toNat 0)), (15, .pointer (some ⟨b155, 0, none⟩)), (32, .slice moves1_b moves1_n moves1_c), (33, .int .i64 (moves1.length : Int)), (34, .int .i64 x130), (46, .bool x159)]) (fun (x159 : Bool) => [(some each2_0_k, .cells #[.bool each2_99] 4 (0, 0)), (some b61, .cells #[.int .i64 r4.N, .int .i64 r4.S, .int .i64 r4.T, .slice (sb ob7) n8 c9, .slice (sb ob11) n12 c13, .slice (sb ob15) n16 c17, .slice (sb ob19) n20 c21, .slice (sb ob23) n24 c25, .slice (sb ob27) n28 c29] 32 (0, 0)), (ob7, .cells (arr (intC .i64) r4.First j10).toArray 3 (0, 0)), (ob11, .cells (arr (intC .i64) r4.Head j14).toArray 3 (0, 0)), (ob15, .cells (arr (intC .i64) r4.Rev j18).toArray 3 (0, 0)), (ob19, .cells (arr (intC .i64) r4.Cap j22).toArray 2 (0, 0)), (ob23, .cells (arr (intC .i64) r4.Arc j26).toArray 3 (0, 0)), (ob27, .cells (arr boolC r4.Back j30).toArray 4 (0, 0)), (some b93, .cells #[.slice (sb ob103) n101 c102, .slice (sb ob113) n111 c112, .slice (sb ob123) n121 c122] 29 (0, 0)), (ob103, .cells (arr (intC .i64) Res100 j104).toArray 2 (0, 0)), (ob113, .cells (arr (intC .i64) Ex110 j114).toArray 2 (0, 0)), (ob123, .cells (arr (intC .i64) H120 j124).toArray 3 (0, 0)), (ob136, .cells (arr (intC .i64) r133 j139).toArray 3 (0, 0)), (ob140, .cells (arr (intC .i64) r134 j143).toArray 3 (0, 0)), (some b155, .cells #[.slice none 0 0, .slice none 0 0, .slice none 0 0] 29 (0, 0))]) ?_ ?_
            ·
              rcases ite_some H with ⟨g157, H⟩ | ⟨g157, H⟩
              ·
                rcases ite_some H with ⟨g158, H⟩ | ⟨g158, H⟩
                ·
                  refine T.regionL (ll := [0, 1, 2, 3, 4, 5, 6, 7, 8, 9, 10, 11, 12, 13]) rfl ?_
                  refine TO.move rfl rfl rfl rfl ?_
                  refine TO.lenX (xs := r133) hn144 rfl rfl rfl rfl rfl TWBLPreRises.l27 ?_
                  refine TO.bin rfl rfl rfl rfl rfl rfl ?_
                  refine TO.move rfl rfl rfl rfl ?_
                  refine TO.decB (t := 50) (b' := true) rfl (decide_eq_true g157) ?_
                  refine TO.move rfl rfl rfl rfl ?_
                  refine TO.rem rfl rfl rfl rfl rfl (by decide) ?_
                  refine TO.bin rfl rfl rfl rfl rfl rfl ?_
                  refine TO.move rfl rfl rfl rfl ?_
                  refine TO.decB (t := 54) (b' := true) rfl (decide_eq_true g158) ?_
                  refine TO.shut rfl rfl rfl rfl ?_
                  refine TO.shut rfl rfl rfl rfl ?_
                  refine TO.shut rfl rfl rfl rfl ?_
                  refine TO.pickT rfl rfl rfl rfl rfl ?_
                  refine TO.pickT rfl rfl rfl rfl rfl ?_
                  refine TO.assign rfl rfl rfl rfl ?_
                  refine TO.done ?_
                  exact X.metE1 true H (AllF.cons rfl (AllF.cons rfl (AllF.cons rfl (AllF.cons rfl (AllF.cons rfl (AllF.cons rfl (AllF.cons rfl (AllF.cons rfl (AllF.cons rfl (AllF.cons rfl (AllF.cons rfl AllF.nil))))))))))) (Pick.cons tk3 (Pick.cons tk3 (Pick.cons tk3 (Pick.cons tk3 (Pick.cons tk3 (Pick.cons tk3 (Pick.cons tk3 (Pick.cons tk3 (Pick.cons tk3 (Pick.cons tk3 (Pick.cons tk3 (Pick.cons tk3 (Pick.cons tk1 (Pick.cons tk1 (Pick.cons tk0 Pick.nil)))))))))))))))
                ·
                  refine T.regionL (ll := [0, 1, 2, 3, 4, 5, 6, 7, 8, 9, 10, 11, 12, 13]) rfl ?_
                  refine TO.move rfl rfl rfl rfl ?_
                  refine TO.lenX (xs := r133) hn144 rfl rfl rfl rfl rfl TWBLPreRises.l27 ?_
                  refine TO.bin rfl rfl rfl rfl rfl rfl ?_
                  refine TO.move rfl rfl rfl rfl ?_
                  refine TO.decB (t := 50) (b' := true) rfl (decide_eq_true g157) ?_
                  refine TO.move rfl rfl rfl rfl ?_
                  refine TO.rem rfl rfl rfl rfl rfl (by decide) ?_
                  refine TO.bin rfl rfl rfl rfl rfl rfl ?_
                  refine TO.move rfl rfl rfl rfl ?_
                  refine TO.decB (t := 54) (b' := false) rfl (decide_eq_false g158) ?_
                  refine TO.move rfl rfl rfl rfl ?_
                  refine TO.lenX (xs := r134) hn148 rfl rfl rfl rfl rfl TWBLPreRises.l27 ?_
                  refine TO.bin rfl rfl rfl rfl rfl rfl ?_
                  refine TO.pickF rfl rfl rfl rfl rfl ?_
                  refine TO.pickT rfl rfl rfl rfl rfl ?_
                  refine TO.assign rfl rfl rfl rfl ?_
                  refine TO.done ?_
                  exact X.metE1 (decide ((r134.length : Int) = 0)) H (AllF.cons rfl (AllF.cons rfl (AllF.cons rfl (AllF.cons rfl (AllF.cons rfl (AllF.cons rfl (AllF.cons rfl (AllF.cons rfl (AllF.cons rfl (AllF.cons rfl (AllF.cons rfl AllF.nil))))))))))) (Pick.cons tk3 (Pick.cons tk3 (Pick.cons tk3 (Pick.cons tk3 (Pick.cons tk3 (Pick.cons tk3 (Pick.cons tk3 (Pick.cons tk3 (Pick.cons tk3 (Pick.cons tk3 (Pick.cons tk3 (Pick.cons tk3 (Pick.cons tk1 (Pick.cons tk1 (Pick.cons tk0 Pick.nil)))))))))))))))
              ·
                refine T.regionL (ll := [0, 1, 2, 3, 4, 5, 6, 7, 8, 9, 10, 11, 12, 13]) rfl ?_
                refine TO.move rfl rfl rfl rfl ?_
                refine TO.lenX (xs := r133) hn144 rfl rfl rfl rfl rfl TWBLPreRises.l27 ?_
                refine TO.bin rfl rfl rfl rfl rfl rfl ?_
                refine TO.move rfl rfl rfl rfl ?_
                refine TO.decB (t := 50) (b' := false) rfl (decide_eq_false g157) ?_
                refine TO.shut rfl rfl rfl rfl ?_
                refine TO.shut rfl rfl rfl rfl ?_
                refine TO.shut rfl rfl rfl rfl ?_
                refine TO.shut rfl rfl rfl rfl ?_
                refine TO.shutU rfl rfl rfl rfl ?_
                refine TO.shutU rfl rfl rfl rfl ?_
                refine TO.shutU rfl rfl rfl rfl ?_
                refine TO.shut rfl rfl rfl rfl ?_
                refine TO.pickF rfl rfl rfl rfl rfl ?_
                refine TO.assign rfl rfl rfl rfl ?_
                refine TO.done ?_
                exact X.metE1 false H (AllF.cons rfl (AllF.cons rfl (AllF.cons rfl (AllF.cons rfl (AllF.cons rfl (AllF.cons rfl (AllF.cons rfl (AllF.cons rfl (AllF.cons rfl (AllF.cons rfl (AllF.cons rfl AllF.nil))))))))))) (Pick.cons tk3 (Pick.cons tk3 (Pick.cons tk3 (Pick.cons tk3 (Pick.cons tk3 (Pick.cons tk3 (Pick.cons tk3 (Pick.cons tk3 (Pick.cons tk3 (Pick.cons tk3 (Pick.cons tk3 (Pick.cons tk3 (Pick.cons tk1 (Pick.cons tk1 (Pick.cons tk0 Pick.nil)))))))))))))))
            · rintro x159 H
              unfold m_acequialaw07_Play_PreRises_1_j2 at H
              rcases ite_some H with ⟨g160, H⟩ | ⟨g160, H⟩
              ·
                refine T.condT rfl g160 ?_
                obtain ⟨g161, H⟩ := gd_some H
                obtain ⟨g162, H⟩ := gd_some H
                obtain ⟨g163, H⟩ := gd_some H
                obtain ⟨⟨r164, r165, r166⟩, e167, H⟩ := bd_some H
                apply T.drawL [⟨[], false, [], relV _⟩, ⟨[], false, [], relV _⟩, ⟨[], false, [], relV _⟩, ⟨[], false, [], relV _⟩, ⟨[3], false, [], relV _⟩, ⟨[], false, [], relV _⟩, ⟨[5], false, [], relV _⟩, ⟨[4, 6], false, [], relV _⟩, ⟨[2, 7], false, [], relV _⟩, ⟨[2, 7, 8], false, [], relV _⟩, ⟨[0, 1, 9], false, [], fun _ v e => ∃ (ob168 : Option Nat) (n169 : Nat) (c170 : Nat) (j171 : List Value) (ob172 : Option Nat) (n173 : Nat) (c174 : Nat) (j175 : List Value) (ob176 : Option Nat) (n177 : Nat) (c178 : Nat) (j179 : List Value), v = .tuple #[.agg #[.slice (sb ob168) n169 c170, .slice (sb ob172) n173 c174, .slice (sb ob176) n177 c178], .int .i64 r165, .int .i64 r166] ∧ e = [(ob168, .cells (arr (intC .i64) r164.Res j171).toArray 2 (0, 0)), (ob172, .cells (arr (intC .i64) r164.Ex j175).toArray 2 (0, 0)), (ob176, .cells (arr (intC .i64) r164.H j179).toArray 3 (0, 0))] ∧ r164.Res.length = n169 ∧ n169 ≤ c170 ∧ j171.length = (c170 - n169) * 1 ∧ (ob168 = none → c170 = 0) ∧ r164.Ex.length = n173 ∧ n173 ≤ c174 ∧ j175.length = (c174 - n173) * 1 ∧ (ob172 = none → c174 = 0) ∧ r164.H.length = n177 ∧ n177 ≤ c178 ∧ j179.length = (c178 - n177) * 1 ∧ (ob176 = none → c178 = 0)⟩, ⟨[10], false, [], fun vl v e => v = (vl.getD 0 undef) ∧ e = []⟩, ⟨[10, 11], false, [], fun vl v e => v = (tupAt (vl.getD 1 undef) 0) ∧ e = []⟩, ⟨[10, 11], false, [], relV _⟩, ⟨[10, 11], false, [], relV _⟩, ⟨[10, 11, 12], true, [], relN⟩] [61, 62, 63, 64, 65, 66, 67, 68, 69, 70, 71, 60, 72, 73, 74] 16 (HRv [fun vl => [(some b155, .cells #[.slice none 0 0, .slice none 0 0, .slice none 0 0] 29 (0, 0))], fun vl => [(some b155, .cells #[(aggAt (vl.getD 0 undef) 0), (aggAt (vl.getD 0 undef) 1), (aggAt (vl.getD 0 undef) 2)] 29 (0, 0))]]) [[], [12]] [(some b155, .cells #[.slice none 0 0, .slice none 0 0, .slice none 0 0] 29 (0, 0))] [(some each2_0_k, .cells #[.bool each2_99] 4 (0, 0)), (some b61, .cells #[.int .i64 r4.N, .int .i64 r4.S, .int .i64 r4.T, .slice (sb ob7) n8 c9, .slice (sb ob11) n12 c13, .slice (sb ob15) n16 c17, .slice (sb ob19) n20 c21, .slice (sb ob23) n24 c25, .slice (sb ob27) n28 c29] 32 (0, 0)), (ob7, .cells (arr (intC .i64) r4.First j10).toArray 3 (0, 0)), (ob11, .cells (arr (intC .i64) r4.Head j14).toArray 3 (0, 0)), (ob15, .cells (arr (intC .i64) r4.Rev j18).toArray 3 (0, 0)), (ob19, .cells (arr (intC .i64) r4.Cap j22).toArray 2 (0, 0)), (ob23, .cells (arr (intC .i64) r4.Arc j26).toArray 3 (0, 0)), (ob27, .cells (arr boolC r4.Back j30).toArray 4 (0, 0)), (some b93, .cells #[.slice (sb ob103) n101 c102, .slice (sb ob113) n111 c112, .slice (sb ob123) n121 c122] 29 (0, 0)), (ob103, .cells (arr (intC .i64) Res100 j104).toArray 2 (0, 0)), (ob113, .cells (arr (intC .i64) Ex110 j114).toArray 2 (0, 0)), (ob123, .cells (arr (intC .i64) H120 j124).toArray 3 (0, 0)), (ob136, .cells (arr (intC .i64) r133 j139).toArray 3 (0, 0)), (ob140, .cells (arr (intC .i64) r134 j143).toArray 3 (0, 0))]
                · exact mixed
                · exact rfl
                · kernel_rfl
                · kernel_rfl
                · kernel_rfl
                · exact rfl
                · exact rfl
                · exact rfl
                · exact rfl
                · exact (by repeat (first | exact Pick.refl _ | exact Pick.nil | apply Pick.none | refine Pick.cons (by repeat (first | exact Take.head _ _ | apply Take.tail)) ?_))
                · refine ⟨?_, ?_, ?_, ?_, ?_, ?_, ?_, ?_, ?_, ?_, ?_, ?_, ?_, ?_, ?_, ?_, trivial⟩
                  · rintro vs es Es Hx -
                    refine TO.reenv (D := []) rfl ?_
                    refine TO.loadA rfl rfl rfl rfl TWBLPreRises.a32 mm1 rfl ?_
                    refine TO.done ?_; exact X.obQ rfl ⟨rfl, rfl⟩ (Pick.refl _) rfl
                  · rintro vs es Es Hx -
                    refine TO.reenv (D := []) rfl ?_
                    refine TO.loadA rfl rfl rfl rfl TWBLPreRises.a29 mm8 rfl ?_
                    refine TO.done ?_; exact X.obQ rfl ⟨rfl, rfl⟩ (Pick.refl _) rfl
                  · rintro vs es Es Hx -
                    refine TO.reenv (D := []) rfl ?_
                    refine TO.move rfl rfl rfl rfl ?_
                    refine TO.done ?_; exact X.obQ rfl ⟨rfl, rfl⟩ (Pick.refl _) rfl
                  · rintro vs es Es Hx -
                    refine TO.reenv (D := []) rfl ?_
                    refine TO.move rfl rfl rfl rfl ?_
                    refine TO.done ?_; exact X.obQ rfl ⟨rfl, rfl⟩ (Pick.refl _) rfl
                  · rintro vs es Es Hx ⟨⟨h_3, e_3⟩, -⟩
                    refine TO.reenv (D := [(64, vs 3)]) rfl ?_; rw [h_3]
                    refine TO.quoG g161 rfl rfl rfl rfl rfl ?_
                    refine TO.done ?_; exact X.obQ rfl ⟨rfl, rfl⟩ (Pick.refl _) (by show [(64, vs 3)] = _; rw [h_3])
                  · rintro vs es Es Hx -
                    refine TO.reenv (D := []) rfl ?_
                    refine TO.move rfl rfl rfl rfl ?_
                    refine TO.done ?_; exact X.obQ rfl ⟨rfl, rfl⟩ (Pick.refl _) rfl
                  · rintro vs es Es Hx ⟨⟨h_5, e_5⟩, -⟩
                    refine TO.reenv (D := [(66, vs 5)]) rfl ?_; rw [h_5]
                    refine TO.lenX (xs := r133) hn144 rfl rfl rfl rfl rfl TWBLPreRises.l27 ?_
                    refine TO.done ?_; exact X.obQ rfl ⟨rfl, rfl⟩ (Pick.refl _) (by show [(66, vs 5)] = _; rw [h_5])
                  · rintro vs es Es Hx ⟨⟨h_4, e_4⟩, ⟨h_6, e_6⟩, -⟩
                    refine TO.reenv (D := [(65, vs 4), (67, vs 6)]) rfl ?_; rw [h_4, h_6]
                    refine TO.rem rfl rfl rfl rfl rfl g162 ?_
                    refine TO.done ?_; exact X.obQ rfl ⟨rfl, rfl⟩ (Pick.refl _) (by show [(65, vs 4), (67, vs 6)] = _; rw [h_4, h_6])
                  · rintro vs es Es Hx ⟨⟨h_2, e_2⟩, ⟨h_7, e_7⟩, -⟩
                    refine TO.reenv (D := [(63, vs 2), (68, vs 7)]) rfl ?_; rw [h_2, h_7]
                    refine TO.ixV hz147 hc145 hn144 g163 rfl rfl rfl rfl rfl TWBLPreRises.l27 TWBLPreRises.n3 ?_
                    refine TO.done ?_; exact X.obQ rfl ⟨rfl, rfl⟩ (Pick.refl _) (by show [(63, vs 2), (68, vs 7)] = _; rw [h_2, h_7])
                  · rintro vs es Es Hx ⟨⟨h_2, e_2⟩, ⟨h_7, e_7⟩, ⟨h_8, e_8⟩, -⟩
                    refine TO.reenv (D := [(63, vs 2), (68, vs 7), (69, vs 8)]) rfl ?_; rw [h_2, h_7, h_8]
                    refine TO.ldIV hz147 hc145 hn144 g163 rfl rfl rfl rfl TWBLPreRises.s3 mm12 ?_
                    refine TO.done ?_; exact X.obQ rfl ⟨rfl, rfl⟩ (Pick.refl _) (by show [(63, vs 2), (68, vs 7), (69, vs 8)] = _; rw [h_2, h_7, h_8])
                  · rintro vs es Es Hx ⟨⟨h_0, e_0⟩, ⟨h_1, e_1⟩, ⟨h_9, e_9⟩, -⟩
                    refine TO.reenv (D := [(61, vs 0), (62, vs 1), (70, vs 9)]) rfl ?_; rw [h_0, h_1, h_9]
                    refine TO.callX TWBLPreRises.c28 rfl rfl rfl rfl (fun wc hwc => w_pre_Push (c0 := r4) (p1 := (Pre.mk Res100 Ex110 H120)) (a2 := (r133.getD (((moves1.getD x130.toNat 0).tdiv 2).tmod (r133.length : Int)).toNat 0)) wc (hwc.rs (f := (intC .i64)) (s := 1) (xs := r4.First) (j := j10) (fun _ => rfl) mm2 hn31 hc32 hz34) (hwc.rs (f := (intC .i64)) (s := 1) (xs := r4.Head) (j := j14) (fun _ => rfl) mm3 hn35 hc36 hz38) (hwc.rs (f := (intC .i64)) (s := 1) (xs := r4.Rev) (j := j18) (fun _ => rfl) mm4 hn39 hc40 hz42) (hwc.rs (f := (intC .i64)) (s := 1) (xs := r4.Cap) (j := j22) (fun _ => rfl) mm5 hn43 hc44 hz46) (hwc.rs (f := (intC .i64)) (s := 1) (xs := r4.Arc) (j := j26) (fun _ => rfl) mm6 hn47 hc48 hz50) (hwc.rs (f := boolC) (s := 1) (xs := r4.Back) (j := j30) (fun _ => rfl) mm7 hn51 hc52 hz54) (hwc.rs (f := (intC .i64)) (s := 1) (xs := Res100) (j := j104) (fun _ => rfl) mm9 hn105 hc106 hz108) (hwc.rs (f := (intC .i64)) (s := 1) (xs := Ex110) (j := j114) (fun _ => rfl) mm10 hn115 hc116 hz118) (hwc.rs (f := (intC .i64)) (s := 1) (xs := H120) (j := j124) (fun _ => rfl) mm11 hn125 hc126 hz128) e167) ?_
                    rintro _ _ ⟨ob168, n169, c170, j171, ob172, n173, c174, j175, ob176, n177, c178, j179, rfl, rfl, hn180, hc181, hj182, hz183, hn184, hc185, hj186, hz187, hn188, hc189, hj190, hz191⟩
                    refine TO.done ?_; exact X.obQ rfl ⟨ob168, n169, c170, j171, ob172, n173, c174, j175, ob176, n177, c178, j179, rfl, rfl, hn180, hc181, hj182, hz183, hn184, hc185, hj186, hz187, hn188, hc189, hj190, hz191⟩ (by repeat (first | exact Pick.refl _ | exact Pick.nil | apply Pick.none | refine Pick.cons (by repeat (first | exact Take.head _ _ | apply Take.tail)) ?_)) (by show [(61, vs 0), (62, vs 1), (70, vs 9)] = _; rw [h_0, h_1, h_9])
                  · rintro vs es Es Hx ⟨⟨ob168, n169, c170, j171, ob172, n173, c174, j175, ob176, n177, c178, j179, h_10, e_10, hn180, hc181, hj182, hz183, hn184, hc185, hj186, hz187, hn188, hc189, hj190, hz191⟩, -⟩
                    refine TO.reenv (D := [(71, vs 10)]) rfl ?_; rw [h_10]
                    refine TO.reheap (H := [(some each2_0_k, .cells #[.bool each2_99] 4 (0, 0)), (some b61, .cells #[.int .i64 r4.N, .int .i64 r4.S, .int .i64 r4.T, .slice (sb ob7) n8 c9, .slice (sb ob11) n12 c13, .slice (sb ob15) n16 c17, .slice (sb ob19) n20 c21, .slice (sb ob23) n24 c25, .slice (sb ob27) n28 c29] 32 (0, 0)), (ob7, .cells (arr (intC .i64) r4.First j10).toArray 3 (0, 0)), (ob11, .cells (arr (intC .i64) r4.Head j14).toArray 3 (0, 0)), (ob15, .cells (arr (intC .i64) r4.Rev j18).toArray 3 (0, 0)), (ob19, .cells (arr (intC .i64) r4.Cap j22).toArray 2 (0, 0)), (ob23, .cells (arr (intC .i64) r4.Arc j26).toArray 3 (0, 0)), (ob27, .cells (arr boolC r4.Back j30).toArray 4 (0, 0)), (some b93, .cells #[.slice (sb ob103) n101 c102, .slice (sb ob113) n111 c112, .slice (sb ob123) n121 c122] 29 (0, 0)), (ob103, .cells (arr (intC .i64) Res100 j104).toArray 2 (0, 0)), (ob113, .cells (arr (intC .i64) Ex110 j114).toArray 2 (0, 0)), (ob123, .cells (arr (intC .i64) H120 j124).toArray 3 (0, 0)), (ob136, .cells (arr (intC .i64) r133 j139).toArray 3 (0, 0)), (ob140, .cells (arr (intC .i64) r134 j143).toArray 3 (0, 0))] ++ ([(ob168, .cells (arr (intC .i64) r164.Res j171).toArray 2 (0, 0)), (ob172, .cells (arr (intC .i64) r164.Ex j175).toArray 2 (0, 0)), (ob176, .cells (arr (intC .i64) r164.H j179).toArray 3 (0, 0))] ++ Hx)) (by show _ ++ ((es 10 ++ ([])) ++ _) = _; rw [e_10]; rfl) ?_
                    refine TO.move rfl rfl rfl rfl ?_
                    refine TO.done ?_; exact X.obQ rfl ⟨by show _ = vs 10; rw [h_10] <;> rfl, rfl⟩ (by show Pick (_ ++ (_ ++ ((es 10 ++ ([])) ++ _))) _; rw [e_10]; exact (by repeat (first | exact Pick.refl _ | exact Pick.nil | apply Pick.none | refine Pick.cons (by repeat (first | exact Take.head _ _ | apply Take.tail)) ?_))) (by show [(71, vs 10)] = _; rw [h_10])
                  · rintro vs es Es Hx ⟨⟨ob168, n169, c170, j171, ob172, n173, c174, j175, ob176, n177, c178, j179, h_10, e_10, hn180, hc181, hj182, hz183, hn184, hc185, hj186, hz187, hn188, hc189, hj190, hz191⟩, ⟨q_11, e_11⟩, -⟩
                    have h_11 : vs 11 = .tuple #[.agg #[.slice (sb ob168) n169 c170, .slice (sb ob172) n173 c174, .slice (sb ob176) n177 c178], .int .i64 r165, .int .i64 r166] := by refine Eq.trans q_11 ?_; show vs 10 = _; rw [h_10] <;> rfl
                    refine TO.reenv (D := [(71, vs 10), (60, vs 11)]) rfl ?_; rw [h_10, h_11]
                    refine TO.reheap (H := [(some each2_0_k, .cells #[.bool each2_99] 4 (0, 0)), (some b61, .cells #[.int .i64 r4.N, .int .i64 r4.S, .int .i64 r4.T, .slice (sb ob7) n8 c9, .slice (sb ob11) n12 c13, .slice (sb ob15) n16 c17, .slice (sb ob19) n20 c21, .slice (sb ob23) n24 c25, .slice (sb ob27) n28 c29] 32 (0, 0)), (ob7, .cells (arr (intC .i64) r4.First j10).toArray 3 (0, 0)), (ob11, .cells (arr (intC .i64) r4.Head j14).toArray 3 (0, 0)), (ob15, .cells (arr (intC .i64) r4.Rev j18).toArray 3 (0, 0)), (ob19, .cells (arr (intC .i64) r4.Cap j22).toArray 2 (0, 0)), (ob23, .cells (arr (intC .i64) r4.Arc j26).toArray 3 (0, 0)), (ob27, .cells (arr boolC r4.Back j30).toArray 4 (0, 0)), (some b93, .cells #[.slice (sb ob103) n101 c102, .slice (sb ob113) n111 c112, .slice (sb ob123) n121 c122] 29 (0, 0)), (ob103, .cells (arr (intC .i64) Res100 j104).toArray 2 (0, 0)), (ob113, .cells (arr (intC .i64) Ex110 j114).toArray 2 (0, 0)), (ob123, .cells (arr (intC .i64) H120 j124).toArray 3 (0, 0)), (ob136, .cells (arr (intC .i64) r133 j139).toArray 3 (0, 0)), (ob140, .cells (arr (intC .i64) r134 j143).toArray 3 (0, 0))] ++ ([(ob168, .cells (arr (intC .i64) r164.Res j171).toArray 2 (0, 0)), (ob172, .cells (arr (intC .i64) r164.Ex j175).toArray 2 (0, 0)), (ob176, .cells (arr (intC .i64) r164.H j179).toArray 3 (0, 0))] ++ Hx)) (by show _ ++ ((es 10 ++ (es 11 ++ ([]))) ++ _) = _; rw [e_10, e_11]; rfl) ?_
                    refine TO.extract rfl rfl rfl rfl rfl ?_
                    refine TO.done ?_; exact X.obQ rfl ⟨by show _ = (tupAt (vs 11) 0); rw [h_11] <;> rfl, rfl⟩ (by show Pick (_ ++ (_ ++ ((es 10 ++ (es 11 ++ ([]))) ++ _))) _; rw [e_10, e_11]; exact (by repeat (first | exact Pick.refl _ | exact Pick.nil | apply Pick.none | refine Pick.cons (by repeat (first | exact Take.head _ _ | apply Take.tail)) ?_))) (by show [(71, vs 10), (60, vs 11)] = _; rw [h_10, h_11])
                  · rintro vs es Es Hx ⟨⟨ob168, n169, c170, j171, ob172, n173, c174, j175, ob176, n177, c178, j179, h_10, e_10, hn180, hc181, hj182, hz183, hn184, hc185, hj186, hz187, hn188, hc189, hj190, hz191⟩, ⟨q_11, e_11⟩, -⟩
                    have h_11 : vs 11 = .tuple #[.agg #[.slice (sb ob168) n169 c170, .slice (sb ob172) n173 c174, .slice (sb ob176) n177 c178], .int .i64 r165, .int .i64 r166] := by refine Eq.trans q_11 ?_; show vs 10 = _; rw [h_10] <;> rfl
                    refine TO.reenv (D := [(71, vs 10), (60, vs 11)]) rfl ?_; rw [h_10, h_11]
                    refine TO.reheap (H := [(some each2_0_k, .cells #[.bool each2_99] 4 (0, 0)), (some b61, .cells #[.int .i64 r4.N, .int .i64 r4.S, .int .i64 r4.T, .slice (sb ob7) n8 c9, .slice (sb ob11) n12 c13, .slice (sb ob15) n16 c17, .slice (sb ob19) n20 c21, .slice (sb ob23) n24 c25, .slice (sb ob27) n28 c29] 32 (0, 0)), (ob7, .cells (arr (intC .i64) r4.First j10).toArray 3 (0, 0)), (ob11, .cells (arr (intC .i64) r4.Head j14).toArray 3 (0, 0)), (ob15, .cells (arr (intC .i64) r4.Rev j18).toArray 3 (0, 0)), (ob19, .cells (arr (intC .i64) r4.Cap j22).toArray 2 (0, 0)), (ob23, .cells (arr (intC .i64) r4.Arc j26).toArray 3 (0, 0)), (ob27, .cells (arr boolC r4.Back j30).toArray 4 (0, 0)), (some b93, .cells #[.slice (sb ob103) n101 c102, .slice (sb ob113) n111 c112, .slice (sb ob123) n121 c122] 29 (0, 0)), (ob103, .cells (arr (intC .i64) Res100 j104).toArray 2 (0, 0)), (ob113, .cells (arr (intC .i64) Ex110 j114).toArray 2 (0, 0)), (ob123, .cells (arr (intC .i64) H120 j124).toArray 3 (0, 0)), (ob136, .cells (arr (intC .i64) r133 j139).toArray 3 (0, 0)), (ob140, .cells (arr (intC .i64) r134 j143).toArray 3 (0, 0))] ++ ([(ob168, .cells (arr (intC .i64) r164.Res j171).toArray 2 (0, 0)), (ob172, .cells (arr (intC .i64) r164.Ex j175).toArray 2 (0, 0)), (ob176, .cells (arr (intC .i64) r164.H j179).toArray 3 (0, 0))] ++ Hx)) (by show _ ++ ((es 10 ++ (es 11 ++ ([]))) ++ _) = _; rw [e_10, e_11]; rfl) ?_
                    refine TO.extract rfl rfl rfl rfl rfl ?_
                    refine TO.done ?_; exact X.obQ rfl ⟨rfl, rfl⟩ (by show Pick (_ ++ (_ ++ ((es 10 ++ (es 11 ++ ([]))) ++ _))) _; rw [e_10, e_11]; exact (by repeat (first | exact Pick.refl _ | exact Pick.nil | apply Pick.none | refine Pick.cons (by repeat (first | exact Take.head _ _ | apply Take.tail)) ?_))) (by show [(71, vs 10), (60, vs 11)] = _; rw [h_10, h_11])
                  · rintro vs es Es Hx ⟨⟨ob168, n169, c170, j171, ob172, n173, c174, j175, ob176, n177, c178, j179, h_10, e_10, hn180, hc181, hj182, hz183, hn184, hc185, hj186, hz187, hn188, hc189, hj190, hz191⟩, ⟨q_11, e_11⟩, -⟩
                    have h_11 : vs 11 = .tuple #[.agg #[.slice (sb ob168) n169 c170, .slice (sb ob172) n173 c174, .slice (sb ob176) n177 c178], .int .i64 r165, .int .i64 r166] := by refine Eq.trans q_11 ?_; show vs 10 = _; rw [h_10] <;> rfl
                    refine TO.reenv (D := [(71, vs 10), (60, vs 11)]) rfl ?_; rw [h_10, h_11]
                    refine TO.reheap (H := [(some each2_0_k, .cells #[.bool each2_99] 4 (0, 0)), (some b61, .cells #[.int .i64 r4.N, .int .i64 r4.S, .int .i64 r4.T, .slice (sb ob7) n8 c9, .slice (sb ob11) n12 c13, .slice (sb ob15) n16 c17, .slice (sb ob19) n20 c21, .slice (sb ob23) n24 c25, .slice (sb ob27) n28 c29] 32 (0, 0)), (ob7, .cells (arr (intC .i64) r4.First j10).toArray 3 (0, 0)), (ob11, .cells (arr (intC .i64) r4.Head j14).toArray 3 (0, 0)), (ob15, .cells (arr (intC .i64) r4.Rev j18).toArray 3 (0, 0)), (ob19, .cells (arr (intC .i64) r4.Cap j22).toArray 2 (0, 0)), (ob23, .cells (arr (intC .i64) r4.Arc j26).toArray 3 (0, 0)), (ob27, .cells (arr boolC r4.Back j30).toArray 4 (0, 0)), (some b93, .cells #[.slice (sb ob103) n101 c102, .slice (sb ob113) n111 c112, .slice (sb ob123) n121 c122] 29 (0, 0)), (ob103, .cells (arr (intC .i64) Res100 j104).toArray 2 (0, 0)), (ob113, .cells (arr (intC .i64) Ex110 j114).toArray 2 (0, 0)), (ob123, .cells (arr (intC .i64) H120 j124).toArray 3 (0, 0)), (ob136, .cells (arr (intC .i64) r133 j139).toArray 3 (0, 0)), (ob140, .cells (arr (intC .i64) r134 j143).toArray 3 (0, 0))] ++ ([(ob168, .cells (arr (intC .i64) r164.Res j171).toArray 2 (0, 0)), (ob172, .cells (arr (intC .i64) r164.Ex j175).toArray 2 (0, 0)), (ob176, .cells (arr (intC .i64) r164.H j179).toArray 3 (0, 0))] ++ Hx)) (by show _ ++ ((es 10 ++ (es 11 ++ ([]))) ++ _) = _; rw [e_10, e_11]; rfl) ?_
                    refine TO.extract rfl rfl rfl rfl rfl ?_
                    refine TO.done ?_; exact X.obQ rfl ⟨rfl, rfl⟩ (by show Pick (_ ++ (_ ++ ((es 10 ++ (es 11 ++ ([]))) ++ _))) _; rw [e_10, e_11]; exact (by repeat (first | exact Pick.refl _ | exact Pick.nil | apply Pick.none | refine Pick.cons (by repeat (first | exact Take.head _ _ | apply Take.tail)) ?_))) (by show [(71, vs 10), (60, vs 11)] = _; rw [h_10, h_11])
                  · rintro vs es Es Hx hb ⟨⟨ob168, n169, c170, j171, ob172, n173, c174, j175, ob176, n177, c178, j179, h_10, e_10, hn180, hc181, hj182, hz183, hn184, hc185, hj186, hz187, hn188, hc189, hj190, hz191⟩, ⟨q_11, e_11⟩, ⟨q_12, e_12⟩, -⟩ hHR
                    obtain rfl : hb = [(some b155, .cells #[.slice none 0 0, .slice none 0 0, .slice none 0 0] 29 (0, 0))] := hHR
                    have h_11 : vs 11 = .tuple #[.agg #[.slice (sb ob168) n169 c170, .slice (sb ob172) n173 c174, .slice (sb ob176) n177 c178], .int .i64 r165, .int .i64 r166] := by refine Eq.trans q_11 ?_; show vs 10 = _; rw [h_10] <;> rfl
                    have h_12 : vs 12 = .agg #[.slice (sb ob168) n169 c170, .slice (sb ob172) n173 c174, .slice (sb ob176) n177 c178] := by refine Eq.trans q_12 ?_; show (tupAt (vs 11) 0) = _; rw [h_11] <;> rfl
                    refine TO.reenv (D := [(71, vs 10), (60, vs 11), (72, vs 12)]) rfl ?_; rw [h_10, h_11, h_12]
                    refine TO.reheap (H := [(some b155, .cells #[.slice none 0 0, .slice none 0 0, .slice none 0 0] 29 (0, 0))] ++ ([(some each2_0_k, .cells #[.bool each2_99] 4 (0, 0)), (some b61, .cells #[.int .i64 r4.N, .int .i64 r4.S, .int .i64 r4.T, .slice (sb ob7) n8 c9, .slice (sb ob11) n12 c13, .slice (sb ob15) n16 c17, .slice (sb ob19) n20 c21, .slice (sb ob23) n24 c25, .slice (sb ob27) n28 c29] 32 (0, 0)), (ob7, .cells (arr (intC .i64) r4.First j10).toArray 3 (0, 0)), (ob11, .cells (arr (intC .i64) r4.Head j14).toArray 3 (0, 0)), (ob15, .cells (arr (intC .i64) r4.Rev j18).toArray 3 (0, 0)), (ob19, .cells (arr (intC .i64) r4.Cap j22).toArray 2 (0, 0)), (ob23, .cells (arr (intC .i64) r4.Arc j26).toArray 3 (0, 0)), (ob27, .cells (arr boolC r4.Back j30).toArray 4 (0, 0)), (some b93, .cells #[.slice (sb ob103) n101 c102, .slice (sb ob113) n111 c112, .slice (sb ob123) n121 c122] 29 (0, 0)), (ob103, .cells (arr (intC .i64) Res100 j104).toArray 2 (0, 0)), (ob113, .cells (arr (intC .i64) Ex110 j114).toArray 2 (0, 0)), (ob123, .cells (arr (intC .i64) H120 j124).toArray 3 (0, 0)), (ob136, .cells (arr (intC .i64) r133 j139).toArray 3 (0, 0)), (ob140, .cells (arr (intC .i64) r134 j143).toArray 3 (0, 0))] ++ ([(ob168, .cells (arr (intC .i64) r164.Res j171).toArray 2 (0, 0)), (ob172, .cells (arr (intC .i64) r164.Ex j175).toArray 2 (0, 0)), (ob176, .cells (arr (intC .i64) r164.H j179).toArray 3 (0, 0))] ++ Hx))) (by show _ ++ (_ ++ ((es 10 ++ (es 11 ++ (es 12 ++ ([])))) ++ _)) = _; rw [e_10, e_11, e_12]; rfl) ?_
                    refine TO.storeA rfl rfl rfl rfl tk0 TWBLPreRises.n29 rfl rfl rfl ?_
                    rw [show (.slice (sb ob168) n169 c170 : Value) = aggAt (vs 12) 0 from (by rw [h_12] <;> rfl)]
                    rw [show (.slice (sb ob172) n173 c174 : Value) = aggAt (vs 12) 1 from (by rw [h_12] <;> rfl)]
                    rw [show (.slice (sb ob176) n177 c178 : Value) = aggAt (vs 12) 2 from (by rw [h_12] <;> rfl)]
                    refine TO.done ?_; exact X.obE (hb' := [(some b155, .cells #[(aggAt (vs 12) 0), (aggAt (vs 12) 1), (aggAt (vs 12) 2)] 29 (0, 0))]) rfl rfl rfl (by show Pick (_ ++ (_ ++ ((es 10 ++ (es 11 ++ (es 12 ++ ([])))) ++ _))) _; rw [e_10, e_11, e_12]; exact (by repeat (first | exact Pick.refl _ | exact Pick.nil | apply Pick.none | refine Pick.cons (by repeat (first | exact Take.head _ _ | apply Take.tail)) ?_))) (by show [(71, vs 10), (60, vs 11), (72, vs 12)] = _; rw [h_10, h_11, h_12] <;> rfl)
                · rintro vs es hb ⟨⟨h_0, e_0⟩, ⟨h_1, e_1⟩, ⟨h_2, e_2⟩, ⟨h_3, e_3⟩, ⟨h_4, e_4⟩, ⟨h_5, e_5⟩, ⟨h_6, e_6⟩, ⟨h_7, e_7⟩, ⟨h_8, e_8⟩, ⟨h_9, e_9⟩, ⟨ob168, n169, c170, j171, ob172, n173, c174, j175, ob176, n177, c178, j179, h_10, e_10, hn180, hc181, hj182, hz183, hn184, hc185, hj186, hz187, hn188, hc189, hj190, hz191⟩, ⟨q_11, e_11⟩, ⟨q_12, e_12⟩, ⟨h_13, e_13⟩, ⟨h_14, e_14⟩, e_15, -⟩ hHR
                  obtain rfl : hb = [(some b155, .cells #[(aggAt (vs 12) 0), (aggAt (vs 12) 1), (aggAt (vs 12) 2)] 29 (0, 0))] := hHR
                  have h_11 : vs 11 = .tuple #[.agg #[.slice (sb ob168) n169 c170, .slice (sb ob172) n173 c174, .slice (sb ob176) n177 c178], .int .i64 r165, .int .i64 r166] := by refine Eq.trans q_11 ?_; show vs 10 = _; rw [h_10] <;> rfl
                  have h_12 : vs 12 = .agg #[.slice (sb ob168) n169 c170, .slice (sb ob172) n173 c174, .slice (sb ob176) n177 c178] := by refine Eq.trans q_12 ?_; show (tupAt (vs 11) 0) = _; rw [h_11] <;> rfl
                  refine TO.reenv (D := [(61, vs 0), (62, vs 1), (63, vs 2), (64, vs 3), (65, vs 4), (66, vs 5), (67, vs 6), (68, vs 7), (69, vs 8), (70, vs 9), (71, vs 10), (60, vs 11), (72, vs 12), (73, vs 13), (74, vs 14)]) rfl ?_
                  refine TO.reheap (H := [(some b155, .cells #[(aggAt (vs 12) 0), (aggAt (vs 12) 1), (aggAt (vs 12) 2)] 29 (0, 0)), (some each2_0_k, .cells #[.bool each2_99] 4 (0, 0)), (some b61, .cells #[.int .i64 r4.N, .int .i64 r4.S, .int .i64 r4.T, .slice (sb ob7) n8 c9, .slice (sb ob11) n12 c13, .slice (sb ob15) n16 c17, .slice (sb ob19) n20 c21, .slice (sb ob23) n24 c25, .slice (sb ob27) n28 c29] 32 (0, 0)), (ob7, .cells (arr (intC .i64) r4.First j10).toArray 3 (0, 0)), (ob11, .cells (arr (intC .i64) r4.Head j14).toArray 3 (0, 0)), (ob15, .cells (arr (intC .i64) r4.Rev j18).toArray 3 (0, 0)), (ob19, .cells (arr (intC .i64) r4.Cap j22).toArray 2 (0, 0)), (ob23, .cells (arr (intC .i64) r4.Arc j26).toArray 3 (0, 0)), (ob27, .cells (arr boolC r4.Back j30).toArray 4 (0, 0)), (some b93, .cells #[.slice (sb ob103) n101 c102, .slice (sb ob113) n111 c112, .slice (sb ob123) n121 c122] 29 (0, 0)), (ob103, .cells (arr (intC .i64) Res100 j104).toArray 2 (0, 0)), (ob113, .cells (arr (intC .i64) Ex110 j114).toArray 2 (0, 0)), (ob123, .cells (arr (intC .i64) H120 j124).toArray 3 (0, 0)), (ob136, .cells (arr (intC .i64) r133 j139).toArray 3 (0, 0)), (ob140, .cells (arr (intC .i64) r134 j143).toArray 3 (0, 0)), (ob168, .cells (arr (intC .i64) r164.Res j171).toArray 2 (0, 0)), (ob172, .cells (arr (intC .i64) r164.Ex j175).toArray 2 (0, 0)), (ob176, .cells (arr (intC .i64) r164.H j179).toArray 3 (0, 0))]) (by show _ ++ (_ ++ (es 0 ++ (es 1 ++ (es 2 ++ (es 3 ++ (es 4 ++ (es 5 ++ (es 6 ++ (es 7 ++ (es 8 ++ (es 9 ++ (es 10 ++ (es 11 ++ (es 12 ++ (es 13 ++ (es 14 ++ (es 15 ++ ([])))))))))))))))))) = _; rw [e_0, e_1, e_2, e_3, e_4, e_5, e_6, e_7, e_8, e_9, e_10, e_11, e_12, e_13, e_14, e_15]; rfl) ?_
                  rw [h_0, h_1, h_2, h_3, h_4, h_5, h_6, h_7, h_8, h_9, h_10, h_11, h_12, h_13, h_14]
                  refine TO.reheap (H := [(some b155, .cells #[.slice (sb ob168) n169 c170, .slice (sb ob172) n173 c174, .slice (sb ob176) n177 c178] 29 (0, 0)), (some each2_0_k, .cells #[.bool each2_99] 4 (0, 0)), (some b61, .cells #[.int .i64 r4.N, .int .i64 r4.S, .int .i64 r4.T, .slice (sb ob7) n8 c9, .slice (sb ob11) n12 c13, .slice (sb ob15) n16 c17, .slice (sb ob19) n20 c21, .slice (sb ob23) n24 c25, .slice (sb ob27) n28 c29] 32 (0, 0)), (ob7, .cells (arr (intC .i64) r4.First j10).toArray 3 (0, 0)), (ob11, .cells (arr (intC .i64) r4.Head j14).toArray 3 (0, 0)), (ob15, .cells (arr (intC .i64) r4.Rev j18).toArray 3 (0, 0)), (ob19, .cells (arr (intC .i64) r4.Cap j22).toArray 2 (0, 0)), (ob23, .cells (arr (intC .i64) r4.Arc j26).toArray 3 (0, 0)), (ob27, .cells (arr boolC r4.Back j30).toArray 4 (0, 0)), (some b93, .cells #[.slice (sb ob103) n101 c102, .slice (sb ob113) n111 c112, .slice (sb ob123) n121 c122] 29 (0, 0)), (ob103, .cells (arr (intC .i64) Res100 j104).toArray 2 (0, 0)), (ob113, .cells (arr (intC .i64) Ex110 j114).toArray 2 (0, 0)), (ob123, .cells (arr (intC .i64) H120 j124).toArray 3 (0, 0)), (ob136, .cells (arr (intC .i64) r133 j139).toArray 3 (0, 0)), (ob140, .cells (arr (intC .i64) r134 j143).toArray 3 (0, 0)), (ob168, .cells (arr (intC .i64) r164.Res j171).toArray 2 (0, 0)), (ob172, .cells (arr (intC .i64) r164.Ex j175).toArray 2 (0, 0)), (ob176, .cells (arr (intC .i64) r164.H j179).toArray 3 (0, 0))]) rfl ?_
                  clear h_14 h_13 h_12 h_11 h_10 h_9 h_8 h_7 h_6 h_5 h_4 h_3 h_2 h_1 h_0 q_11 q_12 e_0 e_1 e_2 e_3 e_4 e_5 e_6 e_7 e_8 e_9 e_10 e_11 e_12 e_13 e_14 e_15
                  refine TO.assign rfl rfl rfl rfl ?_
                  refine TO.done ?_
                  refine X.block_normal ?_
                  exact X.metE16 r164.Res n169 c170 ob168 j171 r164.Ex n173 c174 ob172 j175 r164.H n177 c178 ob176 j179 r166 ⟨H, hn180, hc181, hj182, hz183, hn184, hc185, hj186, hz187, hn188, hc189, hj190, hz191⟩ (AllF.cons rfl (AllF.cons rfl (AllF.cons rfl (AllF.cons rfl (AllF.cons rfl (AllF.cons rfl (AllF.cons rfl (AllF.cons rfl AllF.nil)))))))) (Pick.cons tk1 (Pick.cons tk1 (Pick.cons tk1 (Pick.cons tk1 (Pick.cons tk1 (Pick.cons tk1 (Pick.cons tk1 (Pick.cons tk1 (Pick.cons tk1 (Pick.cons tk1 (Pick.cons tk1 (Pick.cons tk1 (Pick.cons tk0 (Pick.cons tk2 (Pick.cons tk2 (Pick.cons tk2 Pick.nil))))))))))))))))
              ·
                refine T.condF rfl (Bool.eq_false_iff.2 g160) ?_
                refine T.seq ?_
                refine T.regionL (ll := [0, 1, 2, 3]) rfl ?_
                refine TO.move rfl rfl rfl rfl ?_
                refine TO.lenX (xs := r134) hn148 rfl rfl rfl rfl rfl TWBLPreRises.l27 ?_
                refine TO.bin rfl rfl rfl rfl rfl rfl ?_
                refine TO.assign rfl rfl rfl rfl ?_
                refine TO.done ?_
                refine X.seq_normal ?_
                rcases ite_some H with ⟨g195, H⟩ | ⟨g195, H⟩
                ·
                  refine T.condPT rfl g195 ?_
                  obtain ⟨g196, H⟩ := gd_some H
                  obtain ⟨g197, H⟩ := gd_some H
                  obtain ⟨g198, H⟩ := gd_some H
                  obtain ⟨⟨r199, r200⟩, e201, H⟩ := bd_some H
                  apply T.drawL [⟨[], false, [], relV _⟩, ⟨[], false, [], relV _⟩, ⟨[], false, [], relV _⟩, ⟨[], false, [], relV _⟩, ⟨[3], false, [], relV _⟩, ⟨[], false, [], relV _⟩, ⟨[5], false, [], relV _⟩, ⟨[4, 6], false, [], relV _⟩, ⟨[2, 7], false, [], relV _⟩, ⟨[2, 7, 8], false, [], relV _⟩, ⟨[0, 1, 9], false, [], fun _ v e => ∃ (ob202 : Option Nat) (n203 : Nat) (c204 : Nat) (j205 : List Value) (ob206 : Option Nat) (n207 : Nat) (c208 : Nat) (j209 : List Value) (ob210 : Option Nat) (n211 : Nat) (c212 : Nat) (j213 : List Value), v = .tuple #[.agg #[.slice (sb ob202) n203 c204, .slice (sb ob206) n207 c208, .slice (sb ob210) n211 c212], .int .i64 r200] ∧ e = [(ob202, .cells (arr (intC .i64) r199.Res j205).toArray 2 (0, 0)), (ob206, .cells (arr (intC .i64) r199.Ex j209).toArray 2 (0, 0)), (ob210, .cells (arr (intC .i64) r199.H j213).toArray 3 (0, 0))] ∧ r199.Res.length = n203 ∧ n203 ≤ c204 ∧ j205.length = (c204 - n203) * 1 ∧ (ob202 = none → c204 = 0) ∧ r199.Ex.length = n207 ∧ n207 ≤ c208 ∧ j209.length = (c208 - n207) * 1 ∧ (ob206 = none → c208 = 0) ∧ r199.H.length = n211 ∧ n211 ≤ c212 ∧ j213.length = (c212 - n211) * 1 ∧ (ob210 = none → c212 = 0)⟩, ⟨[10], false, [], fun vl v e => v = (vl.getD 0 undef) ∧ e = []⟩, ⟨[10, 11], false, [], fun vl v e => v = (tupAt (vl.getD 1 undef) 0) ∧ e = []⟩, ⟨[10, 11], false, [], relV _⟩, ⟨[10, 11, 12], true, [], relN⟩] [80, 81, 82, 83, 84, 85, 86, 87, 88, 89, 90, 79, 91, 92] 15 (HRv [fun vl => [(some b155, .cells #[.slice none 0 0, .slice none 0 0, .slice none 0 0] 29 (0, 0))], fun vl => [(some b155, .cells #[(aggAt (vl.getD 0 undef) 0), (aggAt (vl.getD 0 undef) 1), (aggAt (vl.getD 0 undef) 2)] 29 (0, 0))]]) [[], [12]] [(some b155, .cells #[.slice none 0 0, .slice none 0 0, .slice none 0 0] 29 (0, 0))] [(some each2_0_k, .cells #[.bool each2_99] 4 (0, 0)), (some b61, .cells #[.int .i64 r4.N, .int .i64 r4.S, .int .i64 r4.T, .slice (sb ob7) n8 c9, .slice (sb ob11) n12 c13, .slice (sb ob15) n16 c17, .slice (sb ob19) n20 c21, .slice (sb ob23) n24 c25, .slice (sb ob27) n28 c29] 32 (0, 0)), (ob7, .cells (arr (intC .i64) r4.First j10).toArray 3 (0, 0)), (ob11, .cells (arr (intC .i64) r4.Head j14).toArray 3 (0, 0)), (ob15, .cells (arr (intC .i64) r4.Rev j18).toArray 3 (0, 0)), (ob19, .cells (arr (intC .i64) r4.Cap j22).toArray 2 (0, 0)), (ob23, .cells (arr (intC .i64) r4.Arc j26).toArray 3 (0, 0)), (ob27, .cells (arr boolC r4.Back j30).toArray 4 (0, 0)), (some b93, .cells #[.slice (sb ob103) n101 c102, .slice (sb ob113) n111 c112, .slice (sb ob123) n121 c122] 29 (0, 0)), (ob103, .cells (arr (intC .i64) Res100 j104).toArray 2 (0, 0)), (ob113, .cells (arr (intC .i64) Ex110 j114).toArray 2 (0, 0)), (ob123, .cells (arr (intC .i64) H120 j124).toArray 3 (0, 0)), (ob136, .cells (arr (intC .i64) r133 j139).toArray 3 (0, 0)), (ob140, .cells (arr (intC .i64) r134 j143).toArray 3 (0, 0))]
                  · exact mixed
                  · exact rfl
                  · kernel_rfl
                  · kernel_rfl
                  · kernel_rfl
                  · exact rfl
                  · exact rfl
                  · exact rfl
                  · exact rfl
                  · exact (by repeat (first | exact Pick.refl _ | exact Pick.nil | apply Pick.none | refine Pick.cons (by repeat (first | exact Take.head _ _ | apply Take.tail)) ?_))
                  · refine ⟨?_, ?_, ?_, ?_, ?_, ?_, ?_, ?_, ?_, ?_, ?_, ?_, ?_, ?_, ?_, trivial⟩
                    · rintro vs es Es Hx -
                      refine TO.reenv (D := []) rfl ?_
                      refine TO.loadA rfl rfl rfl rfl TWBLPreRises.a32 mm1 rfl ?_
                      refine TO.done ?_; exact X.obQ rfl ⟨rfl, rfl⟩ (Pick.refl _) rfl
                    · rintro vs es Es Hx -
                      refine TO.reenv (D := []) rfl ?_
                      refine TO.loadA rfl rfl rfl rfl TWBLPreRises.a29 mm8 rfl ?_
                      refine TO.done ?_; exact X.obQ rfl ⟨rfl, rfl⟩ (Pick.refl _) rfl
                    · rintro vs es Es Hx -
                      refine TO.reenv (D := []) rfl ?_
                      refine TO.move rfl rfl rfl rfl ?_
                      refine TO.done ?_; exact X.obQ rfl ⟨rfl, rfl⟩ (Pick.refl _) rfl
                    · rintro vs es Es Hx -
                      refine TO.reenv (D := []) rfl ?_
                      refine TO.move rfl rfl rfl rfl ?_
                      refine TO.done ?_; exact X.obQ rfl ⟨rfl, rfl⟩ (Pick.refl _) rfl
                    · rintro vs es Es Hx ⟨⟨h_3, e_3⟩, -⟩
                      refine TO.reenv (D := [(83, vs 3)]) rfl ?_; rw [h_3]
                      refine TO.quoG g196 rfl rfl rfl rfl rfl ?_
                      refine TO.done ?_; exact X.obQ rfl ⟨rfl, rfl⟩ (Pick.refl _) (by show [(83, vs 3)] = _; rw [h_3])
                    · rintro vs es Es Hx -
                      refine TO.reenv (D := []) rfl ?_
                      refine TO.move rfl rfl rfl rfl ?_
                      refine TO.done ?_; exact X.obQ rfl ⟨rfl, rfl⟩ (Pick.refl _) rfl
                    · rintro vs es Es Hx ⟨⟨h_5, e_5⟩, -⟩
                      refine TO.reenv (D := [(85, vs 5)]) rfl ?_; rw [h_5]
                      refine TO.lenX (xs := r134) hn148 rfl rfl rfl rfl rfl TWBLPreRises.l27 ?_
                      refine TO.done ?_; exact X.obQ rfl ⟨rfl, rfl⟩ (Pick.refl _) (by show [(85, vs 5)] = _; rw [h_5])
                    · rintro vs es Es Hx ⟨⟨h_4, e_4⟩, ⟨h_6, e_6⟩, -⟩
                      refine TO.reenv (D := [(84, vs 4), (86, vs 6)]) rfl ?_; rw [h_4, h_6]
                      refine TO.rem rfl rfl rfl rfl rfl g197 ?_
                      refine TO.done ?_; exact X.obQ rfl ⟨rfl, rfl⟩ (Pick.refl _) (by show [(84, vs 4), (86, vs 6)] = _; rw [h_4, h_6])
                    · rintro vs es Es Hx ⟨⟨h_2, e_2⟩, ⟨h_7, e_7⟩, -⟩
                      refine TO.reenv (D := [(82, vs 2), (87, vs 7)]) rfl ?_; rw [h_2, h_7]
                      refine TO.ixV hz151 hc149 hn148 g198 rfl rfl rfl rfl rfl TWBLPreRises.l27 TWBLPreRises.n3 ?_
                      refine TO.done ?_; exact X.obQ rfl ⟨rfl, rfl⟩ (Pick.refl _) (by show [(82, vs 2), (87, vs 7)] = _; rw [h_2, h_7])
                    · rintro vs es Es Hx ⟨⟨h_2, e_2⟩, ⟨h_7, e_7⟩, ⟨h_8, e_8⟩, -⟩
                      refine TO.reenv (D := [(82, vs 2), (87, vs 7), (88, vs 8)]) rfl ?_; rw [h_2, h_7, h_8]
                      refine TO.ldIV hz151 hc149 hn148 g198 rfl rfl rfl rfl TWBLPreRises.s3 mm13 ?_
                      refine TO.done ?_; exact X.obQ rfl ⟨rfl, rfl⟩ (Pick.refl _) (by show [(82, vs 2), (87, vs 7), (88, vs 8)] = _; rw [h_2, h_7, h_8])
                    · rintro vs es Es Hx ⟨⟨h_0, e_0⟩, ⟨h_1, e_1⟩, ⟨h_9, e_9⟩, -⟩
                      refine TO.reenv (D := [(80, vs 0), (81, vs 1), (89, vs 9)]) rfl ?_; rw [h_0, h_1, h_9]
                      refine TO.callX TWBLPreRises.c30 rfl rfl rfl rfl (fun wc hwc => w_pre_Lift (c0 := r4) (p1 := (Pre.mk Res100 Ex110 H120)) (u2 := (r134.getD (((moves1.getD x130.toNat 0).tdiv 2).tmod (r134.length : Int)).toNat 0)) wc (hwc.rs (f := (intC .i64)) (s := 1) (xs := r4.First) (j := j10) (fun _ => rfl) mm2 hn31 hc32 hz34) (hwc.rs (f := (intC .i64)) (s := 1) (xs := r4.Head) (j := j14) (fun _ => rfl) mm3 hn35 hc36 hz38) (hwc.rs (f := (intC .i64)) (s := 1) (xs := r4.Rev) (j := j18) (fun _ => rfl) mm4 hn39 hc40 hz42) (hwc.rs (f := (intC .i64)) (s := 1) (xs := r4.Cap) (j := j22) (fun _ => rfl) mm5 hn43 hc44 hz46) (hwc.rs (f := (intC .i64)) (s := 1) (xs := r4.Arc) (j := j26) (fun _ => rfl) mm6 hn47 hc48 hz50) (hwc.rs (f := boolC) (s := 1) (xs := r4.Back) (j := j30) (fun _ => rfl) mm7 hn51 hc52 hz54) (hwc.rs (f := (intC .i64)) (s := 1) (xs := Res100) (j := j104) (fun _ => rfl) mm9 hn105 hc106 hz108) (hwc.rs (f := (intC .i64)) (s := 1) (xs := Ex110) (j := j114) (fun _ => rfl) mm10 hn115 hc116 hz118) (hwc.rs (f := (intC .i64)) (s := 1) (xs := H120) (j := j124) (fun _ => rfl) mm11 hn125 hc126 hz128) e201) ?_
                      rintro _ _ ⟨ob202, n203, c204, j205, ob206, n207, c208, j209, ob210, n211, c212, j213, rfl, rfl, hn214, hc215, hj216, hz217, hn218, hc219, hj220, hz221, hn222, hc223, hj224, hz225⟩
                      refine TO.done ?_; exact X.obQ rfl ⟨ob202, n203, c204, j205, ob206, n207, c208, j209, ob210, n211, c212, j213, rfl, rfl, hn214, hc215, hj216, hz217, hn218, hc219, hj220, hz221, hn222, hc223, hj224, hz225⟩ (by repeat (first | exact Pick.refl _ | exact Pick.nil | apply Pick.none | refine Pick.cons (by repeat (first | exact Take.head _ _ | apply Take.tail)) ?_)) (by show [(80, vs 0), (81, vs 1), (89, vs 9)] = _; rw [h_0, h_1, h_9])
                    · rintro vs es Es Hx ⟨⟨ob202, n203, c204, j205, ob206, n207, c208, j209, ob210, n211, c212, j213, h_10, e_10, hn214, hc215, hj216, hz217, hn218, hc219, hj220, hz221, hn222, hc223, hj224, hz225⟩, -⟩
                      refine TO.reenv (D := [(90, vs 10)]) rfl ?_; rw [h_10]
                      refine TO.reheap (H := [(some each2_0_k, .cells #[.bool each2_99] 4 (0, 0)), (some b61, .cells #[.int .i64 r4.N, .int .i64 r4.S, .int .i64 r4.T, .slice (sb ob7) n8 c9, .slice (sb ob11) n12 c13, .slice (sb ob15) n16 c17, .slice (sb ob19) n20 c21, .slice (sb ob23) n24 c25, .slice (sb ob27) n28 c29] 32 (0, 0)), (ob7, .cells (arr (intC .i64) r4.First j10).toArray 3 (0, 0)), (ob11, .cells (arr (intC .i64) r4.Head j14).toArray 3 (0, 0)), (ob15, .cells (arr (intC .i64) r4.Rev j18).toArray 3 (0, 0)), (ob19, .cells (arr (intC .i64) r4.Cap j22).toArray 2 (0, 0)), (ob23, .cells (arr (intC .i64) r4.Arc j26).toArray 3 (0, 0)), (ob27, .cells (arr boolC r4.Back j30).toArray 4 (0, 0)), (some b93, .cells #[.slice (sb ob103) n101 c102, .slice (sb ob113) n111 c112, .slice (sb ob123) n121 c122] 29 (0, 0)), (ob103, .cells (arr (intC .i64) Res100 j104).toArray 2 (0, 0)), (ob113, .cells (arr (intC .i64) Ex110 j114).toArray 2 (0, 0)), (ob123, .cells (arr (intC .i64) H120 j124).toArray 3 (0, 0)), (ob136, .cells (arr (intC .i64) r133 j139).toArray 3 (0, 0)), (ob140, .cells (arr (intC .i64) r134 j143).toArray 3 (0, 0))] ++ ([(ob202, .cells (arr (intC .i64) r199.Res j205).toArray 2 (0, 0)), (ob206, .cells (arr (intC .i64) r199.Ex j209).toArray 2 (0, 0)), (ob210, .cells (arr (intC .i64) r199.H j213).toArray 3 (0, 0))] ++ Hx)) (by show _ ++ ((es 10 ++ ([])) ++ _) = _; rw [e_10]; rfl) ?_
                      refine TO.move rfl rfl rfl rfl ?_
                      refine TO.done ?_; exact X.obQ rfl ⟨by show _ = vs 10; rw [h_10] <;> rfl, rfl⟩ (by show Pick (_ ++ (_ ++ ((es 10 ++ ([])) ++ _))) _; rw [e_10]; exact (by repeat (first | exact Pick.refl _ | exact Pick.nil | apply Pick.none | refine Pick.cons (by repeat (first | exact Take.head _ _ | apply Take.tail)) ?_))) (by show [(90, vs 10)] = _; rw [h_10])
                    · rintro vs es Es Hx ⟨⟨ob202, n203, c204, j205, ob206, n207, c208, j209, ob210, n211, c212, j213, h_10, e_10, hn214, hc215, hj216, hz217, hn218, hc219, hj220, hz221, hn222, hc223, hj224, hz225⟩, ⟨q_11, e_11⟩, -⟩
                      have h_11 : vs 11 = .tuple #[.agg #[.slice (sb ob202) n203 c204, .slice (sb ob206) n207 c208, .slice (sb ob210) n211 c212], .int .i64 r200] := by refine Eq.trans q_11 ?_; show vs 10 = _; rw [h_10] <;> rfl
                      refine TO.reenv (D := [(90, vs 10), (79, vs 11)]) rfl ?_; rw [h_10, h_11]
                      refine TO.reheap (H := [(some each2_0_k, .cells #[.bool each2_99] 4 (0, 0)), (some b61, .cells #[.int .i64 r4.N, .int .i64 r4.S, .int .i64 r4.T, .slice (sb ob7) n8 c9, .slice (sb ob11) n12 c13, .slice (sb ob15) n16 c17, .slice (sb ob19) n20 c21, .slice (sb ob23) n24 c25, .slice (sb ob27) n28 c29] 32 (0, 0)), (ob7, .cells (arr (intC .i64) r4.First j10).toArray 3 (0, 0)), (ob11, .cells (arr (intC .i64) r4.Head j14).toArray 3 (0, 0)), (ob15, .cells (arr (intC .i64) r4.Rev j18).toArray 3 (0, 0)), (ob19, .cells (arr (intC .i64) r4.Cap j22).toArray 2 (0, 0)), (ob23, .cells (arr (intC .i64) r4.Arc j26).toArray 3 (0, 0)), (ob27, .cells (arr boolC r4.Back j30).toArray 4 (0, 0)), (some b93, .cells #[.slice (sb ob103) n101 c102, .slice (sb ob113) n111 c112, .slice (sb ob123) n121 c122] 29 (0, 0)), (ob103, .cells (arr (intC .i64) Res100 j104).toArray 2 (0, 0)), (ob113, .cells (arr (intC .i64) Ex110 j114).toArray 2 (0, 0)), (ob123, .cells (arr (intC .i64) H120 j124).toArray 3 (0, 0)), (ob136, .cells (arr (intC .i64) r133 j139).toArray 3 (0, 0)), (ob140, .cells (arr (intC .i64) r134 j143).toArray 3 (0, 0))] ++ ([(ob202, .cells (arr (intC .i64) r199.Res j205).toArray 2 (0, 0)), (ob206, .cells (arr (intC .i64) r199.Ex j209).toArray 2 (0, 0)), (ob210, .cells (arr (intC .i64) r199.H j213).toArray 3 (0, 0))] ++ Hx)) (by show _ ++ ((es 10 ++ (es 11 ++ ([]))) ++ _) = _; rw [e_10, e_11]; rfl) ?_
                      refine TO.extract rfl rfl rfl rfl rfl ?_
                      refine TO.done ?_; exact X.obQ rfl ⟨by show _ = (tupAt (vs 11) 0); rw [h_11] <;> rfl, rfl⟩ (by show Pick (_ ++ (_ ++ ((es 10 ++ (es 11 ++ ([]))) ++ _))) _; rw [e_10, e_11]; exact (by repeat (first | exact Pick.refl _ | exact Pick.nil | apply Pick.none | refine Pick.cons (by repeat (first | exact Take.head _ _ | apply Take.tail)) ?_))) (by show [(90, vs 10), (79, vs 11)] = _; rw [h_10, h_11])
                    · rintro vs es Es Hx ⟨⟨ob202, n203, c204, j205, ob206, n207, c208, j209, ob210, n211, c212, j213, h_10, e_10, hn214, hc215, hj216, hz217, hn218, hc219, hj220, hz221, hn222, hc223, hj224, hz225⟩, ⟨q_11, e_11⟩, -⟩
                      have h_11 : vs 11 = .tuple #[.agg #[.slice (sb ob202) n203 c204, .slice (sb ob206) n207 c208, .slice (sb ob210) n211 c212], .int .i64 r200] := by refine Eq.trans q_11 ?_; show vs 10 = _; rw [h_10] <;> rfl
                      refine TO.reenv (D := [(90, vs 10), (79, vs 11)]) rfl ?_; rw [h_10, h_11]
                      refine TO.reheap (H := [(some each2_0_k, .cells #[.bool each2_99] 4 (0, 0)), (some b61, .cells #[.int .i64 r4.N, .int .i64 r4.S, .int .i64 r4.T, .slice (sb ob7) n8 c9, .slice (sb ob11) n12 c13, .slice (sb ob15) n16 c17, .slice (sb ob19) n20 c21, .slice (sb ob23) n24 c25, .slice (sb ob27) n28 c29] 32 (0, 0)), (ob7, .cells (arr (intC .i64) r4.First j10).toArray 3 (0, 0)), (ob11, .cells (arr (intC .i64) r4.Head j14).toArray 3 (0, 0)), (ob15, .cells (arr (intC .i64) r4.Rev j18).toArray 3 (0, 0)), (ob19, .cells (arr (intC .i64) r4.Cap j22).toArray 2 (0, 0)), (ob23, .cells (arr (intC .i64) r4.Arc j26).toArray 3 (0, 0)), (ob27, .cells (arr boolC r4.Back j30).toArray 4 (0, 0)), (some b93, .cells #[.slice (sb ob103) n101 c102, .slice (sb ob113) n111 c112, .slice (sb ob123) n121 c122] 29 (0, 0)), (ob103, .cells (arr (intC .i64) Res100 j104).toArray 2 (0, 0)), (ob113, .cells (arr (intC .i64) Ex110 j114).toArray 2 (0, 0)), (ob123, .cells (arr (intC .i64) H120 j124).toArray 3 (0, 0)), (ob136, .cells (arr (intC .i64) r133 j139).toArray 3 (0, 0)), (ob140, .cells (arr (intC .i64) r134 j143).toArray 3 (0, 0))] ++ ([(ob202, .cells (arr (intC .i64) r199.Res j205).toArray 2 (0, 0)), (ob206, .cells (arr (intC .i64) r199.Ex j209).toArray 2 (0, 0)), (ob210, .cells (arr (intC .i64) r199.H j213).toArray 3 (0, 0))] ++ Hx)) (by show _ ++ ((es 10 ++ (es 11 ++ ([]))) ++ _) = _; rw [e_10, e_11]; rfl) ?_
                      refine TO.extract rfl rfl rfl rfl rfl ?_
                      refine TO.done ?_; exact X.obQ rfl ⟨rfl, rfl⟩ (by show Pick (_ ++ (_ ++ ((es 10 ++ (es 11 ++ ([]))) ++ _))) _; rw [e_10, e_11]; exact (by repeat (first | exact Pick.refl _ | exact Pick.nil | apply Pick.none | refine Pick.cons (by repeat (first | exact Take.head _ _ | apply Take.tail)) ?_))) (by show [(90, vs 10), (79, vs 11)] = _; rw [h_10, h_11])
                    · rintro vs es Es Hx hb ⟨⟨ob202, n203, c204, j205, ob206, n207, c208, j209, ob210, n211, c212, j213, h_10, e_10, hn214, hc215, hj216, hz217, hn218, hc219, hj220, hz221, hn222, hc223, hj224, hz225⟩, ⟨q_11, e_11⟩, ⟨q_12, e_12⟩, -⟩ hHR
                      obtain rfl : hb = [(some b155, .cells #[.slice none 0 0, .slice none 0 0, .slice none 0 0] 29 (0, 0))] := hHR
                      have h_11 : vs 11 = .tuple #[.agg #[.slice (sb ob202) n203 c204, .slice (sb ob206) n207 c208, .slice (sb ob210) n211 c212], .int .i64 r200] := by refine Eq.trans q_11 ?_; show vs 10 = _; rw [h_10] <;> rfl
                      have h_12 : vs 12 = .agg #[.slice (sb ob202) n203 c204, .slice (sb ob206) n207 c208, .slice (sb ob210) n211 c212] := by refine Eq.trans q_12 ?_; show (tupAt (vs 11) 0) = _; rw [h_11] <;> rfl
                      refine TO.reenv (D := [(90, vs 10), (79, vs 11), (91, vs 12)]) rfl ?_; rw [h_10, h_11, h_12]
                      refine TO.reheap (H := [(some b155, .cells #[.slice none 0 0, .slice none 0 0, .slice none 0 0] 29 (0, 0))] ++ ([(some each2_0_k, .cells #[.bool each2_99] 4 (0, 0)), (some b61, .cells #[.int .i64 r4.N, .int .i64 r4.S, .int .i64 r4.T, .slice (sb ob7) n8 c9, .slice (sb ob11) n12 c13, .slice (sb ob15) n16 c17, .slice (sb ob19) n20 c21, .slice (sb ob23) n24 c25, .slice (sb ob27) n28 c29] 32 (0, 0)), (ob7, .cells (arr (intC .i64) r4.First j10).toArray 3 (0, 0)), (ob11, .cells (arr (intC .i64) r4.Head j14).toArray 3 (0, 0)), (ob15, .cells (arr (intC .i64) r4.Rev j18).toArray 3 (0, 0)), (ob19, .cells (arr (intC .i64) r4.Cap j22).toArray 2 (0, 0)), (ob23, .cells (arr (intC .i64) r4.Arc j26).toArray 3 (0, 0)), (ob27, .cells (arr boolC r4.Back j30).toArray 4 (0, 0)), (some b93, .cells #[.slice (sb ob103) n101 c102, .slice (sb ob113) n111 c112, .slice (sb ob123) n121 c122] 29 (0, 0)), (ob103, .cells (arr (intC .i64) Res100 j104).toArray 2 (0, 0)), (ob113, .cells (arr (intC .i64) Ex110 j114).toArray 2 (0, 0)), (ob123, .cells (arr (intC .i64) H120 j124).toArray 3 (0, 0)), (ob136, .cells (arr (intC .i64) r133 j139).toArray 3 (0, 0)), (ob140, .cells (arr (intC .i64) r134 j143).toArray 3 (0, 0))] ++ ([(ob202, .cells (arr (intC .i64) r199.Res j205).toArray 2 (0, 0)), (ob206, .cells (arr (intC .i64) r199.Ex j209).toArray 2 (0, 0)), (ob210, .cells (arr (intC .i64) r199.H j213).toArray 3 (0, 0))] ++ Hx))) (by show _ ++ (_ ++ ((es 10 ++ (es 11 ++ (es 12 ++ ([])))) ++ _)) = _; rw [e_10, e_11, e_12]; rfl) ?_
                      refine TO.storeA rfl rfl rfl rfl tk0 TWBLPreRises.n29 rfl rfl rfl ?_
                      rw [show (.slice (sb ob202) n203 c204 : Value) = aggAt (vs 12) 0 from (by rw [h_12] <;> rfl)]
                      rw [show (.slice (sb ob206) n207 c208 : Value) = aggAt (vs 12) 1 from (by rw [h_12] <;> rfl)]
                      rw [show (.slice (sb ob210) n211 c212 : Value) = aggAt (vs 12) 2 from (by rw [h_12] <;> rfl)]
                      refine TO.done ?_; exact X.obE (hb' := [(some b155, .cells #[(aggAt (vs 12) 0), (aggAt (vs 12) 1), (aggAt (vs 12) 2)] 29 (0, 0))]) rfl rfl rfl (by show Pick (_ ++ (_ ++ ((es 10 ++ (es 11 ++ (es 12 ++ ([])))) ++ _))) _; rw [e_10, e_11, e_12]; exact (by repeat (first | exact Pick.refl _ | exact Pick.nil | apply Pick.none | refine Pick.cons (by repeat (first | exact Take.head _ _ | apply Take.tail)) ?_))) (by show [(90, vs 10), (79, vs 11), (91, vs 12)] = _; rw [h_10, h_11, h_12] <;> rfl)
                  · rintro vs es hb ⟨⟨h_0, e_0⟩, ⟨h_1, e_1⟩, ⟨h_2, e_2⟩, ⟨h_3, e_3⟩, ⟨h_4, e_4⟩, ⟨h_5, e_5⟩, ⟨h_6, e_6⟩, ⟨h_7, e_7⟩, ⟨h_8, e_8⟩, ⟨h_9, e_9⟩, ⟨ob202, n203, c204, j205, ob206, n207, c208, j209, ob210, n211, c212, j213, h_10, e_10, hn214, hc215, hj216, hz217, hn218, hc219, hj220, hz221, hn222, hc223, hj224, hz225⟩, ⟨q_11, e_11⟩, ⟨q_12, e_12⟩, ⟨h_13, e_13⟩, e_14, -⟩ hHR
                    obtain rfl : hb = [(some b155, .cells #[(aggAt (vs 12) 0), (aggAt (vs 12) 1), (aggAt (vs 12) 2)] 29 (0, 0))] := hHR
                    have h_11 : vs 11 = .tuple #[.agg #[.slice (sb ob202) n203 c204, .slice (sb ob206) n207 c208, .slice (sb ob210) n211 c212], .int .i64 r200] := by refine Eq.trans q_11 ?_; show vs 10 = _; rw [h_10] <;> rfl
                    have h_12 : vs 12 = .agg #[.slice (sb ob202) n203 c204, .slice (sb ob206) n207 c208, .slice (sb ob210) n211 c212] := by refine Eq.trans q_12 ?_; show (tupAt (vs 11) 0) = _; rw [h_11] <;> rfl
                    refine TO.reenv (D := [(80, vs 0), (81, vs 1), (82, vs 2), (83, vs 3), (84, vs 4), (85, vs 5), (86, vs 6), (87, vs 7), (88, vs 8), (89, vs 9), (90, vs 10), (79, vs 11), (91, vs 12), (92, vs 13)]) rfl ?_
                    refine TO.reheap (H := [(some b155, .cells #[(aggAt (vs 12) 0), (aggAt (vs 12) 1), (aggAt (vs 12) 2)] 29 (0, 0)), (some each2_0_k, .cells #[.bool each2_99] 4 (0, 0)), (some b61, .cells #[.int .i64 r4.N, .int .i64 r4.S, .int .i64 r4.T, .slice (sb ob7) n8 c9, .slice (sb ob11) n12 c13, .slice (sb ob15) n16 c17, .slice (sb ob19) n20 c21, .slice (sb ob23) n24 c25, .slice (sb ob27) n28 c29] 32 (0, 0)), (ob7, .cells (arr (intC .i64) r4.First j10).toArray 3 (0, 0)), (ob11, .cells (arr (intC .i64) r4.Head j14).toArray 3 (0, 0)), (ob15, .cells (arr (intC .i64) r4.Rev j18).toArray 3 (0, 0)), (ob19, .cells (arr (intC .i64) r4.Cap j22).toArray 2 (0, 0)), (ob23, .cells (arr (intC .i64) r4.Arc j26).toArray 3 (0, 0)), (ob27, .cells (arr boolC r4.Back j30).toArray 4 (0, 0)), (some b93, .cells #[.slice (sb ob103) n101 c102, .slice (sb ob113) n111 c112, .slice (sb ob123) n121 c122] 29 (0, 0)), (ob103, .cells (arr (intC .i64) Res100 j104).toArray 2 (0, 0)), (ob113, .cells (arr (intC .i64) Ex110 j114).toArray 2 (0, 0)), (ob123, .cells (arr (intC .i64) H120 j124).toArray 3 (0, 0)), (ob136, .cells (arr (intC .i64) r133 j139).toArray 3 (0, 0)), (ob140, .cells (arr (intC .i64) r134 j143).toArray 3 (0, 0)), (ob202, .cells (arr (intC .i64) r199.Res j205).toArray 2 (0, 0)), (ob206, .cells (arr (intC .i64) r199.Ex j209).toArray 2 (0, 0)), (ob210, .cells (arr (intC .i64) r199.H j213).toArray 3 (0, 0))]) (by show _ ++ (_ ++ (es 0 ++ (es 1 ++ (es 2 ++ (es 3 ++ (es 4 ++ (es 5 ++ (es 6 ++ (es 7 ++ (es 8 ++ (es 9 ++ (es 10 ++ (es 11 ++ (es 12 ++ (es 13 ++ (es 14 ++ ([]))))))))))))))))) = _; rw [e_0, e_1, e_2, e_3, e_4, e_5, e_6, e_7, e_8, e_9, e_10, e_11, e_12, e_13, e_14]; rfl) ?_
                    rw [h_0, h_1, h_2, h_3, h_4, h_5, h_6, h_7, h_8, h_9, h_10, h_11, h_12, h_13]
                    refine TO.reheap (H := [(some b155, .cells #[.slice (sb ob202) n203 c204, .slice (sb ob206) n207 c208, .slice (sb ob210) n211 c212] 29 (0, 0)), (some each2_0_k, .cells #[.bool each2_99] 4 (0, 0)), (some b61, .cells #[.int .i64 r4.N, .int .i64 r4.S, .int .i64 r4.T, .slice (sb ob7) n8 c9, .slice (sb ob11) n12 c13, .slice (sb ob15) n16 c17, .slice (sb ob19) n20 c21, .slice (sb ob23) n24 c25, .slice (sb ob27) n28 c29] 32 (0, 0)), (ob7, .cells (arr (intC .i64) r4.First j10).toArray 3 (0, 0)), (ob11, .cells (arr (intC .i64) r4.Head j14).toArray 3 (0, 0)), (ob15, .cells (arr (intC .i64) r4.Rev j18).toArray 3 (0, 0)), (ob19, .cells (arr (intC .i64) r4.Cap j22).toArray 2 (0, 0)), (ob23, .cells (arr (intC .i64) r4.Arc j26).toArray 3 (0, 0)), (ob27, .cells (arr boolC r4.Back j30).toArray 4 (0, 0)), (some b93, .cells #[.slice (sb ob103) n101 c102, .slice (sb ob113) n111 c112, .slice (sb ob123) n121 c122] 29 (0, 0)), (ob103, .cells (arr (intC .i64) Res100 j104).toArray 2 (0, 0)), (ob113, .cells (arr (intC .i64) Ex110 j114).toArray 2 (0, 0)), (ob123, .cells (arr (intC .i64) H120 j124).toArray 3 (0, 0)), (ob136, .cells (arr (intC .i64) r133 j139).toArray 3 (0, 0)), (ob140, .cells (arr (intC .i64) r134 j143).toArray 3 (0, 0)), (ob202, .cells (arr (intC .i64) r199.Res j205).toArray 2 (0, 0)), (ob206, .cells (arr (intC .i64) r199.Ex j209).toArray 2 (0, 0)), (ob210, .cells (arr (intC .i64) r199.H j213).toArray 3 (0, 0))]) rfl ?_
                    clear h_13 h_12 h_11 h_10 h_9 h_8 h_7 h_6 h_5 h_4 h_3 h_2 h_1 h_0 q_11 q_12 e_0 e_1 e_2 e_3 e_4 e_5 e_6 e_7 e_8 e_9 e_10 e_11 e_12 e_13 e_14
                    refine TO.assign rfl rfl rfl rfl ?_
                    refine TO.done ?_
                    refine X.block_normal ?_
                    exact X.metE16 r199.Res n203 c204 ob202 j205 r199.Ex n207 c208 ob206 j209 r199.H n211 c212 ob210 j213 r200 ⟨H, hn214, hc215, hj216, hz217, hn218, hc219, hj220, hz221, hn222, hc223, hj224, hz225⟩ (AllF.cons rfl (AllF.cons rfl (AllF.cons rfl (AllF.cons rfl (AllF.cons rfl (AllF.cons rfl (AllF.cons rfl (AllF.cons rfl AllF.nil)))))))) (Pick.cons tk1 (Pick.cons tk1 (Pick.cons tk1 (Pick.cons tk1 (Pick.cons tk1 (Pick.cons tk1 (Pick.cons tk1 (Pick.cons tk1 (Pick.cons tk1 (Pick.cons tk1 (Pick.cons tk1 (Pick.cons tk1 (Pick.cons tk0 (Pick.cons tk2 (Pick.cons tk2 (Pick.cons tk2 Pick.nil))))))))))))))))
                ·
                  refine T.condPF rfl g195 ?_
                  refine T.seq ?_
                  refine T.regionL (ll := [0]) rfl ?_
                  refine TO.assign rfl rfl rfl rfl ?_
                  refine TO.done ?_
                  refine X.seq_normal ?_
                  refine T.trim (AllF.cons (t := 6) rfl AllF.nil) ?_
                  refine T.ret ?_
                  refine X.block_ret ?_
                  refine X.then_ret ?_
                  refine X.block_ret ?_
                  refine X.then_ret ?_
                  have H := loop_exitE H C_1 ▸ K_1
                  refine X.then_ret ?_
                  refine X.block_ret ?_
                  refine X.then_ret ?_
                  obtain ⟨rfl, rfl⟩ := ret2 H
                  exact X.ret1 rfl rfl rfl rfl (Res.tmp rfl) (Pick.cons tk0 Pick.nil) ⟨rfl, rfl⟩
          · rintro Res229 n230 c231 ob232 j233 Ex239 n240 c241 ob242 j243 H249 n250 c251 ob252 j253 f259 ⟨H, hn234, hc235, hj236, hz237, hn244, hc245, hj246, hz247, hn254, hc255, hj256, hz257⟩
            unfold m_acequialaw07_Play_PreRises_1_j3 at H
            refine T.seq ?_
            refine T.seq ?_
            rcases ite_some H with ⟨g260, H⟩ | ⟨g260, H⟩
            ·
              refine T.regionL (ll := [0, 1, 2, 3, 4, 5, 6, 7, 8, 9]) rfl ?_
              refine TO.move rfl rfl rfl rfl ?_
              refine TO.bin rfl rfl rfl rfl rfl rfl ?_
              refine TO.move rfl rfl rfl rfl ?_
              refine TO.decB (t := 95) (b' := true) rfl (decide_eq_true g260) ?_
              refine TO.shut rfl rfl rfl rfl ?_
              refine TO.shut rfl rfl rfl rfl ?_
              refine TO.shut rfl rfl rfl rfl ?_
              refine TO.shut rfl rfl rfl rfl ?_
              refine TO.shut rfl rfl rfl rfl ?_
              refine TO.shut rfl rfl rfl rfl ?_
              refine TO.pickT rfl rfl rfl rfl rfl ?_
              refine TO.done ?_
              refine X.seq_normal ?_
              refine T.condT rfl rfl ?_
              refine T.seq ?_
              refine T.regionL (ll := [0]) rfl ?_
              refine TO.assign rfl rfl rfl rfl ?_
              refine TO.done ?_
              refine X.seq_normal ?_
              refine T.trim (AllF.cons (t := 6) rfl AllF.nil) ?_
              refine T.ret ?_
              refine X.then_ret ?_
              refine X.block_ret ?_
              refine X.then_ret ?_
              have H := loop_exitE H C_1 ▸ K_1
              refine X.then_ret ?_
              refine X.block_ret ?_
              refine X.then_ret ?_
              obtain ⟨rfl, rfl⟩ := ret2 H
              exact X.ret1 rfl rfl rfl rfl (Res.tmp rfl) (Pick.cons tk0 Pick.nil) ⟨rfl, rfl⟩
            ·
              obtain ⟨⟨r261, r262⟩, e263, H⟩ := bd_some H
              refine T.regionL (ll := [0, 1, 2, 3, 4, 5, 6, 7, 8, 9]) rfl ?_
              refine TO.move rfl rfl rfl rfl ?_
              refine TO.bin rfl rfl rfl rfl rfl rfl ?_
              refine TO.move rfl rfl rfl rfl ?_
              refine TO.decB (t := 95) (b' := false) rfl (decide_eq_false g260) ?_
              refine TO.move rfl rfl rfl rfl ?_
              refine TO.loadA rfl rfl rfl rfl TWBLPreRises.a32 mm1 rfl ?_
              refine TO.loadA rfl rfl rfl rfl TWBLPreRises.a29 mm8 rfl ?_
              refine TO.loadA rfl rfl rfl rfl TWBLPreRises.a29 mm12 rfl ?_
              refine TO.callVXM TWBLPreRises.c38 rfl rfl rfl rfl rfl (Take.gone tk0 (Gone.refl _)) rfl (fun wc hwc => w_acequialaw07_PreRises_1 (c0 := r4) (was1 := (Pre.mk Res100 Ex110 H120)) (p2 := (Pre.mk Res229 Ex239 H249)) (c3 := each2_99) wc (hwc.self (Pick.cons tk0 Pick.nil) rfl) (hwc.rsM (f := (intC .i64)) (s := 1) (xs := r4.First) (j := j10) (fun _ => rfl) (Take.gone tk0 (Gone.refl _)) rfl mm1 hn31 hc32 hz34) (hwc.rsM (f := (intC .i64)) (s := 1) (xs := r4.Head) (j := j14) (fun _ => rfl) (Take.gone tk0 (Gone.refl _)) rfl mm2 hn35 hc36 hz38) (hwc.rsM (f := (intC .i64)) (s := 1) (xs := r4.Rev) (j := j18) (fun _ => rfl) (Take.gone tk0 (Gone.refl _)) rfl mm3 hn39 hc40 hz42) (hwc.rsM (f := (intC .i64)) (s := 1) (xs := r4.Cap) (j := j22) (fun _ => rfl) (Take.gone tk0 (Gone.refl _)) rfl mm4 hn43 hc44 hz46) (hwc.rsM (f := (intC .i64)) (s := 1) (xs := r4.Arc) (j := j26) (fun _ => rfl) (Take.gone tk0 (Gone.refl _)) rfl mm5 hn47 hc48 hz50) (hwc.rsM (f := boolC) (s := 1) (xs := r4.Back) (j := j30) (fun _ => rfl) (Take.gone tk0 (Gone.refl _)) rfl mm6 hn51 hc52 hz54) (hwc.rsM (f := (intC .i64)) (s := 1) (xs := Res100) (j := j104) (fun _ => rfl) (Take.gone tk0 (Gone.refl _)) rfl mm8 hn105 hc106 hz108) (hwc.rsM (f := (intC .i64)) (s := 1) (xs := Ex110) (j := j114) (fun _ => rfl) (Take.gone tk0 (Gone.refl _)) rfl mm9 hn115 hc116 hz118) (hwc.rsM (f := (intC .i64)) (s := 1) (xs := H120) (j := j124) (fun _ => rfl) (Take.gone tk0 (Gone.refl _)) rfl mm10 hn125 hc126 hz128) (hwc.rsM (f := (intC .i64)) (s := 1) (xs := Res229) (j := j233) (fun _ => rfl) (Take.gone tk0 (Gone.refl _)) rfl mm12 hn234 hc235 hz237) (hwc.rsM (f := (intC .i64)) (s := 1) (xs := Ex239) (j := j243) (fun _ => rfl) (Take.gone tk0 (Gone.refl _)) rfl mm13 hn244 hc245 hz247) (hwc.rsM (f := (intC .i64)) (s := 1) (xs := H249) (j := j253) (fun _ => rfl) (Take.gone tk0 (Gone.refl _)) rfl mm14 hn254 hc255 hz257) e263) ?_
              rintro _ _ ⟨rfl, rfl⟩
              refine TO.not rfl rfl rfl rfl ?_
              refine TO.pickF rfl rfl rfl rfl rfl ?_
              refine TO.done ?_
              refine X.seq_normal ?_
              rcases ite_some H with ⟨g264, H⟩ | ⟨g264, H⟩
              ·
                refine T.condT rfl g264 ?_
                refine T.seq ?_
                refine T.regionL (ll := [0]) rfl ?_
                refine TO.assign rfl rfl rfl rfl ?_
                refine TO.done ?_
                refine X.seq_normal ?_
                refine T.trim (AllF.cons (t := 6) rfl AllF.nil) ?_
                refine T.ret ?_
                refine X.then_ret ?_
                refine X.block_ret ?_
                refine X.then_ret ?_
                have H := loop_exitE H C_1 ▸ K_1
                refine X.then_ret ?_
                refine X.block_ret ?_
                refine X.then_ret ?_
                obtain ⟨rfl, rfl⟩ := ret2 H
                exact X.ret1 rfl rfl rfl rfl (Res.tmp rfl) (Pick.cons tk0 Pick.nil) ⟨rfl, rfl⟩
              ·
                refine T.condF rfl (Bool.eq_false_iff.2 g264) ?_
                refine T.skip ?_
                refine X.seq_normal ?_
                refine T.regionL (ll := [0, 1]) rfl ?_
                refine TO.loadA rfl rfl rfl rfl TWBLPreRises.a29 mm12 rfl ?_
                refine TO.storeA rfl rfl rfl rfl tk8 TWBLPreRises.n29 rfl rfl rfl ?_
                refine TO.done ?_
                refine X.block_normal ?_
                refine X.seq_normal ?_
                obtain ⟨g265, H⟩ := gd_some H
                refine T.regionL (ll := [0, 1]) rfl ?_
                refine TO.addG g265 rfl rfl rfl rfl rfl ?_
                refine TO.move rfl rfl rfl rfl ?_
                refine TO.done ?_
                have H := loop_next H C_1
                exact X.againE18 n_1 r262 Res229 n230 c231 ob232 j233 Ex239 n240 c241 ob242 j243 H249 n250 c251 ob252 j253 (x130 + 1) ⟨H, hn234, hc235, hj236, hz237, hn244, hc245, hj246, hz247, hn254, hc255, hj256, hz257⟩ (Nat.lt_succ_self _) (AllF.cons rfl (AllF.cons rfl (AllF.cons rfl (AllF.cons rfl (AllF.cons rfl (AllF.cons rfl AllF.nil)))))) (Pick.cons tk1 (Pick.cons tk1 (Pick.cons tk1 (Pick.cons tk1 (Pick.cons tk1 (Pick.cons tk1 (Pick.cons tk1 (Pick.cons tk1 (Pick.cons tk0 (Pick.cons tk4 (Pick.cons tk4 (Pick.cons tk4 Pick.nil))))))))))))
        ·
          refine T.condPF rfl g131 ?_
          refine T.exit ?_
          refine X.then_exit ?_
          have H := loop_exitE H C_1 ▸ K_1
          refine X.then_exit ?_
          refine X.block_here ?_
          exact X.metE1 each2_99 H AllF.nil (Pick.cons tk0 Pick.nil)
      · rintro each2_266 H
        unfold m_acequialaw07_Play_PreRises_1_j4 at H
        refine T.seq ?_
        refine T.regionL (ll := [0]) rfl ?_
        refine TO.assign rfl rfl rfl rfl ?_
        refine TO.done ?_
        refine X.seq_normal ?_
        refine T.ret ?_
        obtain ⟨rfl, rfl⟩ := ret2 H
        exact X.ret1 rfl rfl rfl rfl (Res.tmp rfl) (Pick.cons tk0 Pick.nil) ⟨rfl, rfl⟩
/-- acequia/acequialaw07.PreRises -/
theorem w_acequialaw07_PreRises {n0 : Net} {moves1 : List Int} {n0f3_b : Option Addr} {n0f3_n : Nat} {n0f3_c : Nat} {moves1_b : Option Addr} {moves1_n : Nat} {moves1_c : Nat} (w : World) (h_n0f3 : RS w [] arcC 3 n0f3_b n0f3_n n0f3_c n0.Arcs) (h_moves1 : RS w [] (intC .u8) 1 moves1_b moves1_n moves1_c moves1) {r0 : Bool} (H : m_acequialaw07_PreRises n0 moves1 = some r0) : Fnc Try.prog 6 #[.agg #[.int .i64 n0.N, .int .i64 n0.S, .int .i64 n0.T, .slice n0f3_b n0f3_n n0f3_c], .slice moves1_b moves1_n moves1_c] w [] (fun v N => v = .bool r0 ∧ N = []) := by
  unfold m_acequialaw07_PreRises at H
  refine Fnc.enter (vs := [.agg #[.int .i64 n0.N, .int .i64 n0.S, .int .i64 n0.T, .slice n0f3_b n0f3_n n0f3_c], .slice moves1_b moves1_n moves1_c]) Try.func6 rfl rfl (Inv.refl w) ?_
  refine T.seq ?_
  refine T.regionL (ll := [0, 1]) rfl ?_
  refine TO.boxA rfl rfl rfl rfl ?_; intro b1
  refine TO.assign rfl rfl rfl rfl ?_
  refine TO.done ?_
  refine X.seq_normal ?_
  refine T.seq ?_
  obtain ⟨r3, e4, H⟩ := bd_some H
  refine T.regionL (ll := [0, 1, 2]) rfl ?_
  refine TO.loadA rfl rfl rfl rfl TWBLPreRises.a24 mm0 rfl ?_
  refine TO.callX TWBLPreRises.c16 rfl rfl rfl rfl (fun wc hwc => w_acequialow_Some (n0 := n0) (verts1 := 20) (arcs2 := 50) wc (h_n0f3.mono hwc) e4) ?_
  rintro _ _ ⟨ob5, n6, c7, j8, rfl, rfl, hn9, hc10, hj11, hz12⟩
  refine TO.storeA rfl rfl rfl rfl tk1 TWBLPreRises.n24 rfl rfl rfl ?_
  refine TO.done ?_
  refine X.seq_normal ?_
  refine T.seq ?_
  refine T.regionL (ll := [0, 1]) rfl ?_
  refine TO.alloc rfl rfl rfl TWBLPreRises.z4 ?_; intro b14
  refine TO.store1n (cs' := [.bool true]) rfl rfl rfl rfl tk0 TWBLPreRises.n4 rfl rfl rfl ?_
  refine TO.done ?_
  refine X.seq_normal ?_
  refine T.seq ?_
  obtain ⟨g16, H⟩ := gd_some H
  obtain ⟨⟨r17, r18⟩, e19, H⟩ := bd_some H
  rcases ite_some H with ⟨g20, H⟩ | ⟨g20, H⟩
  ·
    obtain ⟨r21, e22, H⟩ := bd_some H
    refine T.drawS 7 [0, 1, 2, 3, 4, 5, 6] rfl mixed (by kernel_rfl) (by kernel_rfl) rfl (by kernel_rfl) ?_
    refine TQ.loadA rfl rfl rfl rfl TWBLPreRises.a24 mm1 rfl ?_
    refine TQ.move rfl rfl rfl rfl ?_
    refine TQ.move rfl rfl rfl rfl ?_
    refine TQ.lenX (xs := moves1) h_moves1.len rfl rfl rfl rfl rfl TWBLPreRises.l25 ?_
    refine TQ.min2 rfl rfl rfl rfl rfl ?_
    refine TQ.slH (xs := moves1) h_moves1.len h_moves1.cap g16 rfl rfl rfl rfl rfl TWBLPreRises.l25 TWBLPreRises.n5 ?_
    refine TQ.makeFunc rfl rfl rfl rfl rfl ?_
    refine TQ.tail [7, 8, 9, 10, 11] rfl rfl ?_
    refine TO.callXM TWBLPreRises.c34 rfl rfl rfl rfl (Take.gone tk0 (Gone.refl _)) rfl (fun wc hwc => w_acequialaw07_Play_PreRises_1 (n0 := r3) (moves1 := (moves1.take (min (moves1.length : Int) 80).toNat)) (each2_0 := true) wc (hwc.self (Pick.cons tk0 Pick.nil) rfl) (hwc.rsM (f := arcC) (s := 3) (xs := r3.Arcs) (j := j8) (fun _ => rfl) (Take.gone tk0 (Gone.refl _)) rfl mm1 hn9 hc10 hz12) ((RS.take h_moves1 g16).monoM (by decide) hwc (Take.gone tk0 (Gone.refl _)) rfl) e19) ?_
    rintro _ _ ⟨rfl, rfl⟩
    refine TO.move rfl rfl rfl rfl ?_
    refine TO.decB (t := 16) (b' := true) rfl g20 ?_
    refine TO.callX TWBLPreRises.c33 rfl rfl rfl rfl (fun wc hwc => w_acequialaw07_awake  wc  e22) ?_
    rintro _ _ ⟨rfl, rfl⟩
    refine TO.pickT rfl rfl rfl rfl rfl ?_
    refine TO.assign rfl rfl rfl rfl ?_
    refine TO.done ?_
    refine X.seq_normal ?_
    refine T.trim (AllF.cons (t := 4) rfl AllF.nil) ?_
    refine T.ret ?_
    obtain rfl := ret1 H
    exact X.ret1 rfl rfl rfl rfl (Res.tmp rfl) Pick.nil ⟨rfl, rfl⟩
  ·
    refine T.drawS 7 [0, 1, 2, 3, 4, 5, 6] rfl mixed (by kernel_rfl) (by kernel_rfl) rfl (by kernel_rfl) ?_
    refine TQ.loadA rfl rfl rfl rfl TWBLPreRises.a24 mm1 rfl ?_
    refine TQ.move rfl rfl rfl rfl ?_
    refine TQ.move rfl rfl rfl rfl ?_
    refine TQ.lenX (xs := moves1) h_moves1.len rfl rfl rfl rfl rfl TWBLPreRises.l25 ?_
    refine TQ.min2 rfl rfl rfl rfl rfl ?_
    refine TQ.slH (xs := moves1) h_moves1.len h_moves1.cap g16 rfl rfl rfl rfl rfl TWBLPreRises.l25 TWBLPreRises.n5 ?_
    refine TQ.makeFunc rfl rfl rfl rfl rfl ?_
    refine TQ.tail [7, 8, 9, 10, 11] rfl rfl ?_
    refine TO.callXM TWBLPreRises.c34 rfl rfl rfl rfl (Take.gone tk0 (Gone.refl _)) rfl (fun wc hwc => w_acequialaw07_Play_PreRises_1 (n0 := r3) (moves1 := (moves1.take (min (moves1.length : Int) 80).toNat)) (each2_0 := true) wc (hwc.self (Pick.cons tk0 Pick.nil) rfl) (hwc.rsM (f := arcC) (s := 3) (xs := r3.Arcs) (j := j8) (fun _ => rfl) (Take.gone tk0 (Gone.refl _)) rfl mm1 hn9 hc10 hz12) ((RS.take h_moves1 g16).monoM (by decide) hwc (Take.gone tk0 (Gone.refl _)) rfl) e19) ?_
    rintro _ _ ⟨rfl, rfl⟩
    refine TO.move rfl rfl rfl rfl ?_
    refine TO.decB (t := 16) (b' := false) rfl (Bool.eq_false_iff.2 g20) ?_
    refine TO.shut rfl rfl rfl rfl ?_
    refine TO.pickF rfl rfl rfl rfl rfl ?_
    refine TO.assign rfl rfl rfl rfl ?_
    refine TO.done ?_
    refine X.seq_normal ?_
    refine T.trim (AllF.cons (t := 4) rfl AllF.nil) ?_
    refine T.ret ?_
    obtain rfl := ret1 H
    exact X.ret1 rfl rfl rfl rfl (Res.tmp rfl) Pick.nil ⟨rfl, rfl⟩
end Go.Proofs.Ytjeenmabclghoaa.Ax
namespace Go.Acq
open Go
/-- does an arc stand beside a vertex -/
def hit (a : Arc) (v : Nat) : Nat := if a.fr = a.to then 0 else if a.fr = v ∨ a.to = v then 1 else 0
/-- how many of the first k do -/
def cnt (al : List Arc) (v : Nat) : Nat → Nat
  | 0 => 0
  | k + 1 => cnt al v k + hit (al.getD k default) v
/-- where a vertex's residual arcs begin -/
def begins (al : List Arc) : Nat → Nat
  | 0 => 0
  | v + 1 => begins al v + cnt al v al.length
/-- an arc's begin, or its end -/
def vtx (a : Arc) (s : Bool) : Int := if s then a.to else a.fr
/-- where one of both residual arcs stands -/
def pos (al : List Arc) (i : Nat) (s : Bool) : Nat := begins al (vtx (al.getD i default) s).toNat + cnt al (vtx (al.getD i default) s).toNat i
/-- all ends are vertices -/
def endsOK (n : Nat) (al : List Arc) : Prop := ∀ i, i < al.length → ∀ s, 0 ≤ vtx (al.getD i default) s ∧ vtx (al.getD i default) s < n

theorem lset {α : Type} (xs : List α) (i j : Nat) (v d : α) : (xs.set i v).getD j d = if i = j ∧ i < xs.length then v else xs.getD j d := by
  rw [List.getD_eq_getElem?_getD, List.getD_eq_getElem?_getD, List.getElem?_set]
  split
  · rename_i h; subst h
    split
    · rename_i h2; simp [h2]
    · rename_i h2; simp [h2]
  · rename_i h; simp [h]
theorem lset_ne {α : Type} {xs : List α} {i j : Nat} {v d : α} (h : i ≠ j) : (xs.set i v).getD j d = xs.getD j d := by
  rw [lset, if_neg (fun e => h e.1)]
theorem lset_eq {α : Type} {xs : List α} {i : Nat} {v d : α} (h : i < xs.length) : (xs.set i v).getD i d = v := by
  rw [lset, if_pos ⟨rfl, h⟩]
theorem getD_replicate {α : Type} (n j : Nat) (v : α) : (List.replicate n v).getD j v = v := by
  rw [List.getD_eq_getElem?_getD, List.getElem?_replicate]; split <;> simp

theorem hit_le (a : Arc) (v : Nat) : hit a v ≤ 1 := by unfold hit; split; omega; split <;> omega
theorem cnt_mono {al : List Arc} {v i j : Nat} (h : i ≤ j) : cnt al v i ≤ cnt al v j := by
  induction h with
  | refl => exact Nat.le_refl _
  | step _ ih => exact Nat.le_trans ih (Nat.le_add_right _ _)
theorem cnt_le (al : List Arc) (v k : Nat) : cnt al v k ≤ k := by
  induction k with
  | zero => exact Nat.le_refl _
  | succ k ih => have := hit_le (al.getD k default) v; simp only [cnt]; omega
theorem begins_mono {al : List Arc} {u v : Nat} (h : u ≤ v) : begins al u ≤ begins al v := by
  induction h with
  | refl => exact Nat.le_refl _
  | step _ ih => exact Nat.le_trans ih (Nat.le_add_right _ _)
theorem begins_le (al : List Arc) (v : Nat) : begins al v ≤ v * al.length := by
  induction v with
  | zero => exact Nat.zero_le _
  | succ v ih => have := cnt_le al v al.length; simp only [begins, Nat.succ_mul]; omega
theorem hit_vtx {a : Arc} {s : Bool} (h : a.fr ≠ a.to) (h0 : 0 ≤ vtx a s) : hit a (vtx a s).toNat = 1 := by
  unfold hit; rw [if_neg h, if_pos]
  cases s
  · left; simp only [vtx] at h0 ⊢; simp only [Bool.false_eq_true, if_false] at h0 ⊢; omega
  · right; simp only [vtx] at h0 ⊢; simp only [if_true] at h0 ⊢; omega
theorem cnt_lt {al : List Arc} {i j : Nat} {s : Bool} (hij : i < j) (h : (al.getD i default).fr ≠ (al.getD i default).to) (h0 : 0 ≤ vtx (al.getD i default) s) :
    cnt al (vtx (al.getD i default) s).toNat i < cnt al (vtx (al.getD i default) s).toNat j := by
  have h1 := cnt_mono (al := al) (v := (vtx (al.getD i default) s).toNat) (i := i + 1) (j := j) hij
  have h2 := hit_vtx h h0
  simp only [cnt] at h1
  omega
theorem pos_lt {al : List Arc} {n i : Nat} {s : Bool} (hi : i < al.length) (h : (al.getD i default).fr ≠ (al.getD i default).to) (he : endsOK n al) : pos al i s < begins al n := by
  have h1 := cnt_lt (s := s) hi h (he i hi s).1
  have h2 := begins_mono (al := al) (u := (vtx (al.getD i default) s).toNat + 1) (v := n) (by have := he i hi s; omega)
  simp only [begins] at h2
  unfold pos; omega
theorem pos_inj {al : List Arc} {n i j : Nat} {s t : Bool} (he : endsOK n al) (hi : i < al.length) (hj : j < al.length) (h : (al.getD i default).fr ≠ (al.getD i default).to) (g : (al.getD j default).fr ≠ (al.getD j default).to)
    (e : pos al i s = pos al j t) : i = j ∧ s = t := by
  have hi1 := cnt_lt (s := s) hi h (he i hi s).1
  have hj1 := cnt_lt (s := t) hj g (he j hj t).1
  have hv : (vtx (al.getD i default) s).toNat = (vtx (al.getD j default) t).toNat := by
    rcases Nat.lt_trichotomy (vtx (al.getD i default) s).toNat (vtx (al.getD j default) t).toNat with h1 | h1 | h1
    · have := begins_mono (al := al) (u := (vtx (al.getD i default) s).toNat + 1) h1
      simp only [begins] at this
      unfold pos at e; omega
    · exact h1
    · have := begins_mono (al := al) (u := (vtx (al.getD j default) t).toNat + 1) h1
      simp only [begins] at this
      unfold pos at e; omega
  have hij : i = j := by
    rcases Nat.lt_trichotomy i j with h1 | h1 | h1
    · have h2 := cnt_lt (s := s) h1 h (he i hi s).1
      unfold pos at e; rw [hv] at e h2; omega
    · exact h1
    · have h2 := cnt_lt (s := t) h1 g (he j hj t).1
      unfold pos at e; rw [hv] at e; omega
  refine ⟨hij, ?_⟩
  subst hij
  have h1 := (he i hi s).1
  have h2 := (he i hi t).1
  cases s <;> cases t <;> first | rfl | (simp only [vtx, Bool.false_eq_true, if_false, if_true] at hv h1 h2; omega)
theorem cnt_find {al : List Arc} {v r : Nat} : ∀ {k : Nat}, r < cnt al v k → ∃ i, i < k ∧ cnt al v i = r ∧ hit (al.getD i default) v = 1
  | 0, h => by simp [cnt] at h
  | k + 1, h => by
    by_cases h1 : r < cnt al v k
    · obtain ⟨i, h2, h3⟩ := cnt_find h1; exact ⟨i, by omega, h3⟩
    · have := hit_le (al.getD k default) v
      simp only [cnt] at h
      exact ⟨k, by omega, by omega, by omega⟩
theorem begins_find {al : List Arc} {p : Nat} : ∀ {n : Nat}, p < begins al n → ∃ v, v < n ∧ begins al v ≤ p ∧ p < begins al (v + 1)
  | 0, h => by simp [begins] at h
  | n + 1, h => by
    by_cases h1 : p < begins al n
    · obtain ⟨v, h2, h3⟩ := begins_find h1; exact ⟨v, by omega, h3⟩
    · exact ⟨n, by omega, by omega, h⟩
/-- each place is one of an arc's -/
theorem pos_surj {al : List Arc} {n p : Nat} (h : p < begins al n) : ∃ i s, i < al.length ∧ (al.getD i default).fr ≠ (al.getD i default).to ∧ pos al i s = p ∧ 0 ≤ vtx (al.getD i default) s ∧ vtx (al.getD i default) s < n ∧
    begins al (vtx (al.getD i default) s).toNat ≤ p ∧ p < begins al ((vtx (al.getD i default) s).toNat + 1) := by
  obtain ⟨v, hv, h1, h2⟩ := begins_find h
  simp only [begins] at h2
  obtain ⟨i, hi, h3, h4⟩ := cnt_find (al := al) (v := v) (r := p - begins al v) (k := al.length) (by omega)
  unfold hit at h4
  split at h4
  · omega
  · rename_i hne
    split at h4
    · rename_i ho
      rcases ho with ho | ho
      · refine ⟨i, false, hi, hne, ?_, ?_, ?_, ?_, ?_⟩ <;> simp only [pos, vtx, Bool.false_eq_true, if_false, ho, Int.toNat_natCast, begins] <;> omega
      · refine ⟨i, true, hi, hne, ?_, ?_, ?_, ?_, ?_⟩ <;> simp only [pos, vtx, if_true, ho, Int.toNat_natCast, begins] <;> omega
    · omega

/-- what stands at the places of the first k arcs -/
def CsrAt (al : List Arc) (hs rs cs aa : List Int) (bs : List Bool) (k : Nat) : Prop :=
  ∀ i, i < k → (al.getD i default).fr ≠ (al.getD i default).to → ∀ s,
    hs.getD (pos al i s) 0 = vtx (al.getD i default) (!s) ∧ rs.getD (pos al i s) 0 = pos al i (!s) ∧ cs.getD (pos al i s) 0 = (if s then 0 else (al.getD i default).cap) ∧
    aa.getD (pos al i s) 0 = i ∧ bs.getD (pos al i s) false = s
/-- the residual arcs of a net -/
structure CsrOK (al : List Arc) (n : Nat) (fs hs rs cs aa : List Int) (bs : List Bool) : Prop where
  lf : fs.length = n + 1
  lh : hs.length = begins al n
  lr : rs.length = begins al n
  lc : cs.length = begins al n
  la : aa.length = begins al n
  lb : bs.length = begins al n
  hf : ∀ v, v ≤ n → fs.getD v 0 = begins al v
  hat : CsrAt al hs rs cs aa bs al.length
theorem CsrAt.skip {al : List Arc} {hs rs cs aa : List Int} {bs : List Bool} {k : Nat} (h : CsrAt al hs rs cs aa bs k) (e : (al.getD k default).fr = (al.getD k default).to) : CsrAt al hs rs cs aa bs (k + 1) := by
  intro i hi hne s
  rcases Nat.lt_succ_iff_lt_or_eq.1 hi with h1 | h1
  · exact h i h1 hne s
  · subst h1; exact absurd e hne
theorem set2 {α : Type} {xs : List α} {p q j : Nat} {u v d : α} (hp : p < xs.length) (hq : q < xs.length) (hpq : p ≠ q) :
    ((xs.set p u).set q v).getD j d = if j = p then u else if j = q then v else xs.getD j d := by
  rw [lset, lset]
  by_cases h1 : j = p
  · subst h1; rw [if_pos rfl, if_neg (fun e => hpq e.1.symm), if_pos ⟨rfl, hp⟩]
  · rw [if_neg h1]
    by_cases h2 : j = q
    · subst h2; rw [if_pos rfl, if_pos ⟨rfl, by simpa using hq⟩]
    · rw [if_neg h2, if_neg (fun e => h2 e.1.symm), if_neg (fun e => h1 e.1.symm)]
theorem CsrAt.put {al : List Arc} {n : Nat} {hs rs cs aa : List Int} {bs : List Bool} {k : Nat} (h : CsrAt al hs rs cs aa bs k) (he : endsOK n al) (hk : k < al.length) (hne : (al.getD k default).fr ≠ (al.getD k default).to)
    (lh : hs.length = begins al n) (lr : rs.length = begins al n) (lc : cs.length = begins al n) (la : aa.length = begins al n) (lb : bs.length = begins al n) :
    CsrAt al ((hs.set (pos al k false) (al.getD k default).to).set (pos al k true) (al.getD k default).fr) ((rs.set (pos al k false) (pos al k true)).set (pos al k true) (pos al k false))
      ((cs.set (pos al k false) (al.getD k default).cap).set (pos al k true) 0) ((aa.set (pos al k false) k).set (pos al k true) k) ((bs.set (pos al k false) false).set (pos al k true) true) (k + 1) := by
  have hp : pos al k false < begins al n := pos_lt hk hne he
  have hq : pos al k true < begins al n := pos_lt hk hne he
  have hpq : pos al k false ≠ pos al k true := fun e => by have := (pos_inj he hk hk hne hne e).2; cases this
  intro i hi hni s
  have hil : i < al.length := by omega
  rw [set2 (by omega) (by omega) hpq, set2 (by omega) (by omega) hpq, set2 (by omega) (by omega) hpq, set2 (by omega) (by omega) hpq, set2 (by omega) (by omega) hpq]
  by_cases hik : i = k
  · subst hik
    cases s
    · simp [vtx]
    · simp [vtx, hpq.symm]
  · have h1 : pos al i s ≠ pos al k false := fun e => hik (pos_inj he hil hk hni hne e).1
    have h2 : pos al i s ≠ pos al k true := fun e => hik (pos_inj he hil hk hni hne e).1
    simp only [if_neg h1, if_neg h2]
    exact h i (by omega) hni s

/-- counting: behind k arcs -/
def Counted (al : List Arc) (m k : Nat) (fs : List Int) : Prop := fs.length = m + 1 ∧ fs.getD 0 0 = 0 ∧ ∀ v : Int, 0 ≤ v → v < m → fs.getD (v + 1).toNat 0 = cnt al v.toNat k
/-- summing up: behind k vertices -/
def Summed (al : List Arc) (m k : Nat) (fs : List Int) : Prop := fs.length = m + 1 ∧ (∀ u, u ≤ k → fs.getD u 0 = begins al u) ∧ ∀ u, k ≤ u → u < m → fs.getD (u + 1) 0 = cnt al u al.length
theorem begins_small {al : List Arc} {v : Nat} (hv : v ≤ 4096) (hl : al.length ≤ 16384) : begins al v ≤ 67108864 :=
  Nat.le_trans (begins_le al v) (Nat.mul_le_mul hv hl)
theorem Counted.start (al : List Arc) (m : Nat) {p : Nat} (h : p = m + 1) : Counted al m 0 (List.replicate p 0) :=
  ⟨by simp [h], getD_replicate _ _ _, fun v _ _ => by rw [getD_replicate]; rfl⟩
theorem Counted.skip {al : List Arc} {m k : Nat} {fs : List Int} (h : Counted al m k fs) (e : (al.getD k default).fr = (al.getD k default).to) : Counted al m (k + 1) fs :=
  ⟨h.1, h.2.1, fun v h0 h1 => by rw [h.2.2 v h0 h1]; simp only [cnt, hit, if_pos e, Nat.add_zero]⟩
theorem Counted.put {al : List Arc} {m k : Nat} {fs : List Int} (h : Counted al m k fs) (he : endsOK m al) (hk : k < al.length) (hne : (al.getD k default).fr ≠ (al.getD k default).to) :
    Counted al m (k + 1) ((fs.set ((al.getD k default).fr + 1).toNat (fs.getD ((al.getD k default).fr + 1).toNat 0 + 1)).set ((al.getD k default).to + 1).toNat
      ((fs.set ((al.getD k default).fr + 1).toNat (fs.getD ((al.getD k default).fr + 1).toNat 0 + 1)).getD ((al.getD k default).to + 1).toNat 0 + 1)) := by
  have e0 := he k hk false
  have e1 := he k hk true
  simp only [vtx, Bool.false_eq_true, if_false, if_true] at e0 e1
  obtain ⟨hl, hz, hv⟩ := h
  refine ⟨by simpa using hl, ?_, ?_⟩
  · rw [lset_ne (by omega), lset_ne (by omega)]; exact hz
  · intro v h0 h1
    have hvv := hv v h0 h1
    rw [lset_ne (i := ((al.getD k default).fr + 1).toNat) (j := ((al.getD k default).to + 1).toNat) (by omega), set2 (by omega) (by omega) (by omega)]
    simp only [cnt, hit, if_neg hne]
    by_cases a1 : v = (al.getD k default).fr
    · rw [if_pos (by omega), if_pos (by omega), ← a1, hvv]; omega
    · rw [if_neg (by omega)]
      by_cases a2 : v = (al.getD k default).to
      · rw [if_pos (by omega), if_pos (by omega), ← a2, hvv]; omega
      · rw [if_neg (by omega), if_neg (by omega), hvv]; omega
theorem Counted.summed {al : List Arc} {m : Nat} {fs : List Int} (h : Counted al m al.length fs) : Summed al m 0 fs :=
  ⟨h.1, fun u hu => by rw [Nat.le_zero.1 hu]; exact h.2.1, fun u _ hu => by have := h.2.2 u (by omega) (by omega); rw [show ((u : Int) + 1).toNat = u + 1 by omega] at this; simpa using this⟩
theorem Summed.put {al : List Arc} {m k : Nat} {fs : List Int} (h : Summed al m k fs) (hk : k < m) {i : Nat} (hi : i = k + 1) : Summed al m (k + 1) (fs.set i (fs.getD i 0 + fs.getD k 0)) := by
  subst hi
  obtain ⟨hl, h1, h2⟩ := h
  refine ⟨by simpa using hl, fun u hu => ?_, fun u h3 h4 => ?_⟩
  · by_cases e : u = k + 1
    · subst e; rw [lset_eq (by omega), h1 k (Nat.le_refl _), h2 k (Nat.le_refl _) hk]; simp [begins]; omega
    · rw [lset_ne (by omega)]; exact h1 u (by omega)
  · rw [lset_ne (by omega)]; exact h2 u (by omega) h4

theorem checkE_zero {N S T : Int} {al : List Arc} (h : checkE N S T al = 0) : (2 ≤ N ∧ N ≤ 4096) ∧ (al.length : Int) ≤ 16384 ∧ (vertexB N S = true ∧ vertexB N T = true ∧ S ≠ T) ∧ al.all (endsB N) = true ∧ al.all capB = true ∧ (sumL 4611686018427387904 al).isSome = true := by
  unfold checkE at h
  split at h
  · omega
  · rename_i h1
    split at h
    · omega
    · rename_i h2
      split at h
      · omega
      · rename_i h3
        split at h
        · omega
        · rename_i h4
          split at h
          · omega
          · rename_i h5
            split at h
            · omega
            · rename_i h6
              refine ⟨Classical.not_not.1 h1, Classical.not_not.1 h2, Classical.not_not.1 h3, by simpa using h4, by simpa using h5, ?_⟩
              cases e : sumL 4611686018427387904 al <;> simp_all
theorem endsOK_of {m : Nat} {al : List Arc} (h : al.all (endsB (m : Int)) = true) : endsOK m al := by
  intro i hi s
  have h1 := List.all_eq_true.1 h _ (getD_mem hi default)
  simp only [endsB, vertexB, Bool.and_eq_true, decide_eq_true_eq] at h1
  cases s
  · simp only [vtx, Bool.false_eq_true, if_false]; exact h1.1
  · simp only [vtx, if_true]; exact h1.2
/-- making: behind k arcs -/
def MakeAt (al : List Arc) (m k : Nat) (nx hs rs cs aa : List Int) (bs : List Bool) : Prop :=
  (nx.length = m + 1 ∧ hs.length = begins al m ∧ rs.length = begins al m ∧ cs.length = begins al m ∧ aa.length = begins al m ∧ bs.length = begins al m) ∧
  CsrAt al hs rs cs aa bs k ∧ ∀ v : Int, 0 ≤ v → v < m → nx.getD v.toNat 0 = begins al v.toNat + cnt al v.toNat k
theorem MakeAt.start {al : List Arc} {m : Nat} {fs : List Int} (hl : fs.length = m + 1) (hf : ∀ u, u ≤ m → fs.getD u 0 = begins al u) :
    MakeAt al m 0 fs (List.replicate (begins al m) 0) (List.replicate (begins al m) 0) (List.replicate (begins al m) 0) (List.replicate (begins al m) 0) (List.replicate (begins al m) false) := by
  refine ⟨⟨hl, by simp, by simp, by simp, by simp, by simp⟩, fun i hi => by omega, fun v h0 h1 => ?_⟩
  rw [hf _ (by omega)]; simp [cnt]
theorem MakeAt.skip {al : List Arc} {m k : Nat} {nx hs rs cs aa : List Int} {bs : List Bool} (h : MakeAt al m k nx hs rs cs aa bs) (e : (al.getD k default).fr = (al.getD k default).to) : MakeAt al m (k + 1) nx hs rs cs aa bs :=
  ⟨h.1, h.2.1.skip e, fun v h0 h1 => by rw [h.2.2 v h0 h1]; simp only [cnt, hit, if_pos e, Nat.add_zero]⟩
theorem MakeAt.at {al : List Arc} {m k : Nat} {nx hs rs cs aa : List Int} {bs : List Bool} (h : MakeAt al m k nx hs rs cs aa bs) (he : endsOK m al) (hk : k < al.length) (s : Bool) : nx.getD (vtx (al.getD k default) s).toNat 0 = (pos al k s : Nat) := by
  rw [h.2.2 _ (he k hk s).1 (he k hk s).2]; simp only [pos]; omega
theorem MakeAt.put {al : List Arc} {m k : Nat} {nx hs rs cs aa : List Int} {bs : List Bool} (h : MakeAt al m k nx hs rs cs aa bs) (he : endsOK m al) (hk : k < al.length) (hne : (al.getD k default).fr ≠ (al.getD k default).to) :
    MakeAt al m (k + 1) ((nx.set (al.getD k default).fr.toNat ((pos al k false : Nat) + 1)).set (al.getD k default).to.toNat ((pos al k true : Nat) + 1))
      ((hs.set (pos al k false) (al.getD k default).to).set (pos al k true) (al.getD k default).fr) ((rs.set (pos al k false) (pos al k true)).set (pos al k true) (pos al k false))
      ((cs.set (pos al k false) (al.getD k default).cap).set (pos al k true) 0) ((aa.set (pos al k false) k).set (pos al k true) k) ((bs.set (pos al k false) false).set (pos al k true) true) := by
  have g0 := h.at he hk false
  have g1 := h.at he hk true
  obtain ⟨⟨l0, l1, l2, l3, l4, l5⟩, hA, hv⟩ := h
  have e0 := he k hk false
  have e1 := he k hk true
  simp only [vtx, Bool.false_eq_true, if_false, if_true] at e0 e1 g0 g1
  refine ⟨⟨by simpa using l0, by simpa using l1, by simpa using l2, by simpa using l3, by simpa using l4, by simpa using l5⟩, hA.put he hk hne l1 l2 l3 l4 l5, fun v h0 h1 => ?_⟩
  have hvv := hv v h0 h1
  rw [set2 (by omega) (by omega) (by omega)]
  simp only [cnt, hit, if_neg hne]
  by_cases a1 : v = (al.getD k default).fr
  · rw [if_pos (by omega), if_pos (by omega), ← g0, ← a1, hvv]; omega
  · rw [if_neg (by omega)]
    by_cases a2 : v = (al.getD k default).to
    · rw [if_pos (by omega), if_pos (by omega), ← g1, ← a2, hvv]; omega
    · rw [if_neg (by omega), if_neg (by omega), hvv]; omega
theorem MakeAt.done {al : List Arc} {m : Nat} {fs nx hs rs cs aa : List Int} {bs : List Bool} (h : MakeAt al m al.length nx hs rs cs aa bs) (hl : fs.length = m + 1) (hf : ∀ u, u ≤ m → fs.getD u 0 = begins al u) : CsrOK al m fs hs rs cs aa bs :=
  ⟨hl, h.1.2.1, h.1.2.2.1, h.1.2.2.2.1, h.1.2.2.2.2.1, h.1.2.2.2.2.2, hf, h.2.1⟩
end Go.Acq
namespace Go.Acq
open Go
theorem next_ne {S m : Int} (h0 : 0 ≤ S) (h1 : S < m) (h2 : 2 ≤ m) : 0 ≤ (S + 1).tmod m ∧ (S + 1).tmod m < m ∧ (S + 1).tmod m ≠ S := by
  rw [Int.tmod_eq_emod_of_nonneg (by omega)]
  refine ⟨Int.emod_nonneg _ (by omega), Int.emod_lt_of_pos _ (by omega), ?_⟩
  by_cases h : S + 1 < m
  · rw [Int.emod_eq_of_lt (by omega) h]; omega
  · rw [show S + 1 = m by omega, Int.emod_self]; omega
theorem tmod_range {x n : Int} (h : 0 ≤ x) (hn : 0 < n) : 0 ≤ x.tmod n ∧ x.tmod n < n := by
  rw [Int.tmod_eq_emod_of_nonneg h]
  exact ⟨Int.emod_nonneg _ (by omega), Int.emod_lt_of_pos _ hn⟩
/-- arcs made right -/
def SomeAt (m : Nat) (ol : List Arc) : Prop := ∀ a, a ∈ ol → endsB m a = true ∧ 0 ≤ a.cap ∧ a.cap < 1125899906842624
theorem SomeAt.put {m : Nat} {ol : List Arc} {a : Arc} (h : SomeAt m ol) (h1 : 0 ≤ a.fr ∧ a.fr < m) (h2 : 0 ≤ a.to ∧ a.to < m) (h3 : 0 ≤ a.cap ∧ a.cap < 1125899906842624) : SomeAt m (ol ++ [a]) := by
  intro b hb
  rcases List.mem_append.1 hb with hb | hb
  · exact h b hb
  · simp only [List.mem_singleton] at hb
    subst hb
    exact ⟨by simp [endsB, vertexB, h1, h2], h3⟩
theorem sumL_some {m : Nat} {ol : List Arc} {left : Int} (h : SomeAt m ol) (hl : (ol.length : Int) * 1125899906842624 ≤ left) : (sumL left ol).isSome = true := by
  induction ol generalizing left with
  | nil => simp [sumL]
  | cons a ol ih =>
    have ha := (h a (.head _)).2
    simp only [List.length_cons] at hl
    have h2 : (0 : Int) ≤ (ol.length : Int) * 1125899906842624 := by omega
    simp only [sumL]
    rw [if_neg (by omega)]
    exact ih (fun b hb => h b (.tail _ hb)) (by omega)
theorem some_check {m : Nat} {S T : Int} {ol : List Arc} (hm : 2 ≤ m) (hm2 : m ≤ 4096) (hS : 0 ≤ S ∧ S < m) (hT : 0 ≤ T ∧ T < m) (hST : T ≠ S) (h : SomeAt m ol) (hl : ol.length ≤ 4096) : checkE m S T ol = 0 := by
  have h1 : ol.all (endsB m) = true := List.all_eq_true.2 fun a ha => (h a ha).1
  have h2 : ol.all capB = true := List.all_eq_true.2 fun a ha => by simp [capB, (h a ha).2.1]
  have h3 : (sumL 4611686018427387904 ol).isSome = true := sumL_some h (by omega)
  unfold checkE
  rw [if_neg (by omega), if_neg (by omega), if_neg (by simp [vertexB, hS, hT, Ne.symm hST]), if_neg (by simp [h1]), if_neg (by simp [h2]), if_neg (by
    cases e : sumL 4611686018427387904 ol with
    | none => rw [e] at h3; cases h3
    | some x => simp)]
/-- numbers that are brought within: behind k arcs -/
def WithinAt (al : List Arc) (n k : Nat) (fl : List Int) : Prop := fl.length = n ∧
  (∀ i, i < k → 0 ≤ fl.getD i 0 ∧ fl.getD i 0 ≤ (al.getD i default).cap ∧ ((al.getD i default).fr = (al.getD i default).to → fl.getD i 0 = 0)) ∧ ∀ i, k ≤ i → fl.getD i 0 = 0
theorem WithinAt.start (al : List Arc) (n : Nat) : WithinAt al n 0 (List.replicate n 0) := ⟨by simp, fun i h => by omega, fun i _ => getD_replicate _ _ _⟩
theorem WithinAt.skip {al : List Arc} {n k : Nat} {fl : List Int} (h : WithinAt al n k fl) (hc : 0 ≤ (al.getD k default).cap) : WithinAt al n (k + 1) fl := by
  refine ⟨h.1, fun i hi => ?_, fun i hi => h.2.2 i (by omega)⟩
  rcases Nat.lt_succ_iff_lt_or_eq.1 hi with h1 | h1
  · exact h.2.1 i h1
  · subst h1; have := h.2.2 i (Nat.le_refl _); rw [this]; exact ⟨Int.le_refl _, hc, fun _ => rfl⟩
theorem WithinAt.put {al : List Arc} {n k : Nat} {fl : List Int} {v : Int} (h : WithinAt al n k fl) (hk : k < n) (h0 : 0 ≤ v) (h1 : v ≤ (al.getD k default).cap) (hne : (al.getD k default).fr ≠ (al.getD k default).to) : WithinAt al n (k + 1) (fl.set k v) := by
  refine ⟨by simpa using h.1, fun i hi => ?_, fun i hi => by rw [lset_ne (by omega)]; exact h.2.2 i (by omega)⟩
  by_cases e : i = k
  · subst e; rw [lset_eq (by rw [h.1]; exact hk)]; exact ⟨h0, h1, fun e => absurd e hne⟩
  · rw [lset_ne (by omega)]; exact h.2.1 i (by omega)
/-- what is left: the numbers at one place, are they right -/
def resOK (aa cs : List Int) (bs : List Bool) (fl : List Int) (j : Nat) : Prop := aa.getD j 0 < fl.length ∧ (bs.getD j false = true ∨ (0 ≤ fl.getD (aa.getD j 0).toNat 0 ∧ fl.getD (aa.getD j 0).toNat 0 ≤ cs.getD j 0))
def resV (aa cs : List Int) (bs : List Bool) (fl : List Int) (j : Nat) : Int := if bs.getD j false = true then fl.getD (aa.getD j 0).toNat 0 else cs.getD j 0 - fl.getD (aa.getD j 0).toNat 0
def ResAt (aa cs : List Int) (bs : List Bool) (fl : List Int) (L k : Nat) (rl : List Int) : Prop := rl.length = L ∧ ∀ j, j < k → resOK aa cs bs fl j ∧ rl.getD j 0 = resV aa cs bs fl j
theorem ResAt.put {aa cs : List Int} {bs : List Bool} {fl : List Int} {L k : Nat} {rl : List Int} {v : Int} (h : ResAt aa cs bs fl L k rl) (hk : k < L) (h1 : resOK aa cs bs fl k) (h2 : v = resV aa cs bs fl k) : ResAt aa cs bs fl L (k + 1) (rl.set k v) := by
  refine ⟨by simpa using h.1, fun j hj => ?_⟩
  by_cases e : j = k
  · subst e; rw [lset_eq (by rw [h.1]; exact hk)]; exact ⟨h1, h2⟩
  · rw [lset_ne (by omega)]; exact h.2 j (by omega)
end Go.Acq
namespace Go.Acq
open Go
/-- what stands at a place -/
theorem CsrOK.place {al : List Arc} {m : Nat} {fs hs rs cs aa : List Int} {bs : List Bool} (h : CsrOK al m fs hs rs cs aa bs) {j : Nat} (hj : j < begins al m) :
    ∃ i s, i < al.length ∧ (al.getD i default).fr ≠ (al.getD i default).to ∧ pos al i s = j ∧ hs.getD j 0 = vtx (al.getD i default) (!s) ∧ rs.getD j 0 = pos al i (!s) ∧ cs.getD j 0 = (if s then 0 else (al.getD i default).cap) ∧ aa.getD j 0 = i ∧ bs.getD j false = s := by
  obtain ⟨i, s, hi, hne, hp, _⟩ := pos_surj hj
  have := h.hat i hi hne s
  rw [hp] at this
  exact ⟨i, s, hi, hne, hp, this⟩
end Go.Acq
namespace Go.Acq
open Go
theorem ok_eq {α : Type} {m : Option α} {v : α} (h : Ok m (fun a => a = v)) : m = some v := by obtain ⟨a, h1, h2⟩ := h; rw [h1, h2]
theorem ok_of {α : Type} {m : Option α} {v : α} {Q : α → Prop} (h : m = some v) (q : Q v) : Ok m Q := ⟨v, h, q⟩
/-- a list's length that fits -/
abbrev lenok (n : Nat) : Prop := n ≤ 9223372036854775807
theorem s_Among {x n : Int} (h1 : n ≤ 4611686018427387904) : m_acequialow_Among x n = some (among x n) := by
  unfold m_acequialow_Among among
  by_cases h : n < 1
  · rw [if_pos h, if_pos h]
  · have a1 := Int.tmod_lt_of_pos x (show 0 < n by omega)
    have a2 := neg_lt_tmod x (show 0 < n by omega)
    rw [if_neg h, if_neg h, gd_pos (by omega), gd_pos (by constructor <;> omega), gd_pos (by omega)]
theorem s_Longs {a b : List Int} (h : lenok a.length) : m_acequialow_Longs a b = some (decide (a = b)) := by
  refine ok_eq ?_
  unfold m_acequialow_Longs
  refine Ok.ite.2 ⟨fun hl => Ok.some.2 (decide_eq_false ?_).symm, fun hl => ?_⟩
  · rintro rfl; exact hl rfl
  · refine Ok.bind.2 (Ok.loop (fun x => 0 ≤ x ∧ x ≤ a.length ∧ ∀ i, i < x.toNat → a.getD i 0 = b.getD i 0) (fun x => (a.length - x).toNat) ⟨by omega, by omega, fun i hi => by omega⟩ (by unfold FUEL; omega) ?_)
    rintro x ⟨h0, h1, h2⟩
    unfold m_acequialow_Longs_s1
    refine Ok.ite.2 ⟨fun hx => ?_, fun hx => ?_⟩
    · refine Ok.gd.2 ⟨(by (first | omega | (constructor <;> omega) | (simp only [List.length_set, List.length_replicate]; omega) | (simp only [List.length_set, List.length_replicate]; constructor <;> omega))), Ok.gd.2 ⟨(by (first | omega | (constructor <;> omega) | (simp only [List.length_set, List.length_replicate]; omega) | (simp only [List.length_set, List.length_replicate]; constructor <;> omega))), Ok.ite.2 ⟨fun hne => ?_, fun hne => ?_⟩⟩⟩
      · refine Ok.some.2 (Ok.some.2 (decide_eq_false ?_).symm)
        rintro rfl; exact hne rfl
      · refine Ok.gd.2 ⟨(by (first | omega | (constructor <;> omega) | (simp only [List.length_set, List.length_replicate]; omega) | (simp only [List.length_set, List.length_replicate]; constructor <;> omega))), Ok.some.2 ⟨⟨by omega, by omega, fun i hi => ?_⟩, by omega⟩⟩
        rcases Nat.lt_or_ge i x.toNat with h3 | h3
        · exact h2 i h3
        · rw [show i = x.toNat by omega]; exact Classical.not_not.1 hne
    · refine Ok.some.2 (Ok.some.2 (decide_eq_true ?_).symm)
      exact eq_of_getD 0 (by omega) (fun i hi => h2 i (by omega))
/-- what a search for a bad one gives -/
theorem s_vertex (n : Net) (v : Int) : m_net_vertex n v = some (vertexB n.N v) := by
  unfold m_net_vertex vertexB
  by_cases h : 0 ≤ v <;> simp [h]
theorem s_rules4 (n : Net) (a : Arc) : m_net_rules_4 n a = some (endsB n.N a) := by
  unfold m_net_rules_4 endsB
  rw [s_vertex, s_vertex]
  simp only [Option.bind_some]
  cases vertexB n.N a.fr <;> simp
theorem s_of4 (n : Net) (h : lenok n.Arcs.length) : m_net_of_1_rules_4 n = some (n.Arcs.all (endsB n.N)) := by
  refine ok_eq ?_
  unfold m_net_of_1_rules_4 m_slices_ContainsFunc_Arc_of_1_1_rules_4 m_slices_IndexFunc_Arc_of_1_1_rules_4
  refine Ok.bind.2 (Ok.bind.2 (Ok.bind.2 (Ok.loop (fun x => 0 ≤ x ∧ x ≤ n.Arcs.length ∧ ∀ i, i < x.toNat → endsB n.N (n.Arcs.getD i default) = true) (fun x => (n.Arcs.length - x).toNat) ⟨by omega, by omega, fun i hi => by omega⟩ (by unfold FUEL; omega) ?_)))
  rintro x ⟨h0, h1, h2⟩
  unfold m_slices_IndexFunc_Arc_of_1_1_rules_4_s1 m_net_of_1_1_rules_4
  refine Ok.ite.2 ⟨fun hx => ?_, fun hx => ?_⟩
  · refine Ok.gd.2 ⟨(by (first | omega | (constructor <;> omega) | (simp only [List.length_set, List.length_replicate]; omega) | (simp only [List.length_set, List.length_replicate]; constructor <;> omega))), Ok.bind.2 (Ok.bind.2 (ok_of (s_rules4 _ _) (Ok.some.2 (Ok.ite.2 ⟨fun hb => ?_, fun hb => ?_⟩))))⟩
    · refine Ok.some.2 (Ok.some.2 (Ok.some.2 (Ok.some.2 ?_)))
      simp only [h0, decide_true, Bool.not_true]
      refine Eq.symm (Bool.eq_false_iff.2 fun hall => ?_)
      have := List.all_eq_true.1 hall _ (getD_mem (show x.toNat < n.Arcs.length by omega) default)
      rw [this] at hb; cases hb
    · refine Ok.gd.2 ⟨(by (first | omega | (constructor <;> omega) | (simp only [List.length_set, List.length_replicate]; omega) | (simp only [List.length_set, List.length_replicate]; constructor <;> omega))), Ok.some.2 ⟨⟨by omega, by omega, fun i hi => ?_⟩, by omega⟩⟩
      rcases Nat.lt_or_ge i x.toNat with h3 | h3
      · exact h2 i h3
      · rw [show i = x.toNat by omega]; simpa using hb
  · refine Ok.some.2 (Ok.some.2 (Ok.some.2 (Ok.some.2 ?_)))
    refine Eq.symm (List.all_eq_true.2 fun a ha => ?_)
    obtain ⟨i, hi, rfl⟩ := List.getElem_of_mem ha
    have := h2 i (by omega)
    rwa [List.getD_eq_getElem?_getD, List.getElem?_eq_getElem hi] at this
theorem s_of5 (n : Net) (h : lenok n.Arcs.length) : m_net_of_1_rules_5 n = some (n.Arcs.all capB) := by
  refine ok_eq ?_
  unfold m_net_of_1_rules_5 m_slices_ContainsFunc_Arc_of_1_1_rules_5 m_slices_IndexFunc_Arc_of_1_1_rules_5
  refine Ok.bind.2 (Ok.bind.2 (Ok.bind.2 (Ok.loop (fun x => 0 ≤ x ∧ x ≤ n.Arcs.length ∧ ∀ i, i < x.toNat → capB (n.Arcs.getD i default) = true) (fun x => (n.Arcs.length - x).toNat) ⟨by omega, by omega, fun i hi => by omega⟩ (by unfold FUEL; omega) ?_)))
  rintro x ⟨h0, h1, h2⟩
  unfold m_slices_IndexFunc_Arc_of_1_1_rules_5_s1 m_net_of_1_1_rules_5 m_net_rules_5
  refine Ok.ite.2 ⟨fun hx => ?_, fun hx => ?_⟩
  · refine Ok.gd.2 ⟨(by (first | omega | (constructor <;> omega) | (simp only [List.length_set, List.length_replicate]; omega) | (simp only [List.length_set, List.length_replicate]; constructor <;> omega))), Ok.bind.2 (Ok.bind.2 (Ok.some.2 (Ok.some.2 (Ok.ite.2 ⟨fun hb => ?_, fun hb => ?_⟩))))⟩
    · refine Ok.some.2 (Ok.some.2 (Ok.some.2 (Ok.some.2 ?_)))
      simp only [h0, decide_true, Bool.not_true]
      refine Eq.symm (Bool.eq_false_iff.2 fun hall => ?_)
      have := List.all_eq_true.1 hall _ (getD_mem (show x.toNat < n.Arcs.length by omega) default)
      simp only [capB] at this
      rw [this] at hb; cases hb
    · refine Ok.gd.2 ⟨(by (first | omega | (constructor <;> omega) | (simp only [List.length_set, List.length_replicate]; omega) | (simp only [List.length_set, List.length_replicate]; constructor <;> omega))), Ok.some.2 ⟨⟨by omega, by omega, fun i hi => ?_⟩, by omega⟩⟩
      rcases Nat.lt_or_ge i x.toNat with h3 | h3
      · exact h2 i h3
      · rw [show i = x.toNat by omega]; simpa [capB] using hb
  · refine Ok.some.2 (Ok.some.2 (Ok.some.2 (Ok.some.2 ?_)))
    refine Eq.symm (List.all_eq_true.2 fun a ha => ?_)
    obtain ⟨i, hi, rfl⟩ := List.getElem_of_mem ha
    have := h2 i (by omega)
    rwa [List.getD_eq_getElem?_getD, List.getElem?_eq_getElem hi] at this
theorem s_Sum (n : Net) (h : lenok n.Arcs.length) : m_net_Sum n = some (match sumL 4611686018427387904 n.Arcs with | some l => (4611686018427387904 - l, true) | none => (0, false)) := by
  refine ok_eq ?_
  unfold m_net_Sum
  refine Ok.bind.2 (Ok.loop (fun s => 0 ≤ s.2 ∧ s.2 ≤ n.Arcs.length ∧ 0 ≤ s.1 ∧ s.1 ≤ 4611686018427387904 ∧ sumL 4611686018427387904 n.Arcs = sumL s.1 (n.Arcs.drop s.2.toNat)) (fun s => (n.Arcs.length - s.2).toNat) ⟨by simp, by simp, by simp, by simp, by simp⟩ (by unfold FUEL; simp; omega) ?_)
  rintro ⟨left, x⟩ ⟨h0, h1, h2, h3, h4⟩
  simp only at h0 h1 h2 h3 h4 ⊢
  unfold m_net_Sum_s1 m_net_Sum_j2
  refine Ok.ite.2 ⟨fun hx => ?_, fun hx => ?_⟩
  · rw [sumL_drop (by omega)] at h4
    refine Ok.gd.2 ⟨(by (first | omega | (constructor <;> omega) | (simp only [List.length_set, List.length_replicate]; omega) | (simp only [List.length_set, List.length_replicate]; constructor <;> omega))), Ok.ite.2 ⟨fun hb => ?_, fun hb => ?_⟩⟩
    · rw [if_pos rfl]
      refine Ok.some.2 (Ok.some.2 ?_)
      rw [h4, if_pos (.inl hb)]
    · by_cases hc : left < (n.Arcs.getD x.toNat default).cap
      · rw [if_pos (decide_eq_true hc)]
        refine Ok.some.2 (Ok.some.2 ?_)
        rw [h4, if_pos (.inr hc)]
      · rw [if_neg (by simpa using hc)]
        refine Ok.gd.2 ⟨(by (first | omega | (constructor <;> omega) | (simp only [List.length_set, List.length_replicate]; omega) | (simp only [List.length_set, List.length_replicate]; constructor <;> omega))), Ok.gd.2 ⟨(by (first | omega | (constructor <;> omega) | (simp only [List.length_set, List.length_replicate]; omega) | (simp only [List.length_set, List.length_replicate]; constructor <;> omega))), Ok.some.2 ⟨⟨by simp only; omega, by simp only; omega, by simp only; omega, by simp only; omega, ?_⟩, by simp only; omega⟩⟩⟩
        rw [h4, if_neg (by omega)]
        simp only
        rw [show (x + 1).toNat = x.toNat + 1 by omega]
  · unfold m_net_Sum_j3
    refine Ok.some.2 (Ok.gd.2 ⟨(by (first | omega | (constructor <;> omega) | (simp only [List.length_set, List.length_replicate]; omega) | (simp only [List.length_set, List.length_replicate]; constructor <;> omega))), Ok.some.2 ?_⟩)
    rw [h4, List.drop_eq_nil_of_le (by omega)]
    rfl
theorem s_Check (n : Net) (h : lenok n.Arcs.length) : m_net_Check n = some (checkE n.N n.S n.T n.Arcs) := by
  unfold m_net_Check m_net_rules m_net_of_rules_4 m_net_of_rules_5 m_net_rules_1 m_net_rules_2 m_net_rules_3 m_net_rules_6 m_net_Check_j1
  rw [s_vertex, s_vertex, s_of4 n h, s_of5 n h, s_Sum n h]
  unfold checkE
  simp only [Option.bind_some]
  by_cases h1 : 2 ≤ n.N ∧ n.N ≤ 4096
  · rw [if_pos h1.1, if_neg (not_not_intro h1)]
    simp only [Option.bind_some, decide_eq_true h1.2, Bool.not_true, Bool.false_eq_true, if_false]
    by_cases h2 : (n.Arcs.length : Int) ≤ 16384
    · rw [if_neg (by simp [h2]), if_neg (not_not_intro h2)]
      by_cases h3 : vertexB n.N n.S = true ∧ vertexB n.N n.T = true ∧ n.S ≠ n.T
      · rw [if_pos h3.1, if_pos h3.2.1, if_neg (not_not_intro h3)]
        simp only [Option.bind_some, decide_eq_true h3.2.2, Bool.not_true, Bool.false_eq_true, if_false]
        cases h4 : n.Arcs.all (endsB n.N)
        · simp
        · cases h5 : n.Arcs.all capB
          · simp
          · cases h6 : sumL 4611686018427387904 n.Arcs <;> simp
      · rw [if_pos h3]
        by_cases a1 : vertexB n.N n.S = true
        · by_cases a2 : vertexB n.N n.T = true
          · have a3 : ¬ n.S ≠ n.T := fun e => h3 ⟨a1, a2, e⟩
            simp [a1, a2, a3]
          · simp [a1, a2]
        · simp [a1]
    · rw [if_pos (by simp [h2]), if_pos h2]
  · rw [if_pos h1]
    by_cases a1 : 2 ≤ n.N
    · have a2 : ¬ n.N ≤ 4096 := fun e => h1 ⟨a1, e⟩
      simp [a1, a2]
    · simp [a1]
end Go.Acq
namespace Go.Acq
open Go
set_option linter.unusedSimpArgs false
/-- a net that comes in -/
structure NetIn (n : Net) : Prop where
  nN : i64ok n.N
  nS : i64ok n.S
  nT : i64ok n.T
  arcs : ∀ a, a ∈ n.Arcs → i64ok a.fr ∧ i64ok a.to ∧ i64ok a.cap
  len : n.Arcs.length ≤ 9223372036854775807
/-- a net made right -/
structure Made (n : Net) (v a : Int) : Prop where
  check : checkE n.N n.S n.T n.Arcs = 0
  rows : SomeAt n.N.toNat n.Arcs
  verts : n.N ≤ v
  arcs : (n.Arcs.length : Int) ≤ a
  ends : 2 ≤ n.N ∧ 0 ≤ n.S ∧ n.S < n.N ∧ 0 ≤ n.T ∧ n.T < n.N ∧ n.S ≠ n.T
theorem Made.nat {n : Net} {v a : Int} (h : Made n v a) : ∃ m : Nat, n.N = m ∧ SomeAt m n.Arcs := ⟨n.N.toNat, by have := h.ends.1; omega, h.rows⟩
theorem Made.caps {n : Net} {m : Nat} (h : SomeAt m n.Arcs) : ∀ i, i < n.Arcs.length → 0 ≤ (n.Arcs.getD i default).cap ∧ (n.Arcs.getD i default).cap < 1125899906842624 := fun _ hi => (h _ (getD_mem hi default)).2
theorem s_Some {n : Net} {v a : Int} (h : NetIn n) (hv0 : 2 ≤ v) (hv1 : v ≤ 4096) (ha0 : 0 ≤ a) (ha1 : a ≤ 4096) : Ok (m_acequialow_Some n v a) (fun r => Made r v a) := by
  have hN := among_range (x := n.N) (n := v - 1) (by omega)
  unfold m_acequialow_Some
  refine Ok.gd.2 ⟨(by (first | omega | (constructor <;> omega) | (simp only [List.length_set, List.length_replicate]; omega) | (simp only [List.length_set, List.length_replicate]; constructor <;> omega))), Ok.bind.2 (ok_of (s_Among (by omega)) (Ok.gd.2 ⟨(by (first | omega | (constructor <;> omega) | (simp only [List.length_set, List.length_replicate]; omega) | (simp only [List.length_set, List.length_replicate]; constructor <;> omega))), ?_⟩))⟩
  obtain ⟨m, hm⟩ : ∃ m : Nat, 2 + among n.N (v - 1) = m := ⟨(2 + among n.N (v - 1)).toNat, by omega⟩
  rw [hm]
  have hS := among_range (x := n.S) (n := (m : Int)) (by omega)
  have hT := among_range (x := n.T) (n := (m : Int)) (by omega)
  refine Ok.bind.2 (ok_of (s_Among (by omega)) (Ok.bind.2 (ok_of (s_Among (by omega)) ?_)))
  have key : ∀ t : Int, 0 ≤ t → t < m → t ≠ among n.S m → Ok (m_acequialow_Some_j1 n a (among n.N (v - 1)) (among n.S m) t) (fun r => Made r v a) := by
    intro t t0 t1 t2
    unfold m_acequialow_Some_j1
    refine Ok.gd.2 ⟨(by (first | omega | (constructor <;> omega) | (simp only [List.length_set, List.length_replicate]; omega) | (simp only [List.length_set, List.length_replicate]; constructor <;> omega))), Ok.bind.2 ?_⟩
    obtain ⟨q, hq⟩ : ∃ q : Nat, min (n.Arcs.length : Int) a = q := ⟨(min (n.Arcs.length : Int) a).toNat, by omega⟩
    obtain ⟨al, hal⟩ : ∃ l, l = n.Arcs.take (q : Int).toNat := ⟨_, rfl⟩
    have hlen : al.length = q := by rw [hal, List.length_take]; omega
    have hcap : ∀ b, b ∈ al → i64ok b.cap := fun b hb => (h.arcs b (List.mem_of_mem_take (by rw [← hal]; exact hb))).2.2
    refine Ok.lp (fun s => ∃ k : Nat, s.2 = k ∧ k ≤ q ∧ s.1.length = k ∧ SomeAt m s.1) (fun s => (q - s.2).toNat) ⟨0, rfl, by omega, rfl, fun b hb => by cases hb⟩ (by unfold FUEL; simp only; omega) ?_
    rintro ⟨ol, x⟩ ⟨k, h1, h2, h3, h4⟩ P next exit
    simp only at h1 h2 h3 h4 next ⊢
    subst h1
    unfold m_acequialow_Some_s2
    rw [hq, ← hal]
    simp only [Int.toNat_natCast]
    refine Ok.ite.2 ⟨fun hx => ?_, fun hx => ?_⟩
    · have hkl : k < al.length := by omega
      have hc := hcap _ (getD_mem hkl default)
      have hj : ∀ c : Int, 0 ≤ c → Ok (m_acequialow_Some_j3 n a (among n.N (v - 1)) ol k c) P := by
        intro c hc0
        unfold m_acequialow_Some_j3
        rw [hq, ← hal, hm]
        refine Ok.bind.2 (ok_of (s_Among (by omega)) (Ok.bind.2 (ok_of (s_Among (by omega)) (Ok.gd.2 ⟨?_, Ok.gd.2 ⟨(by (first | omega | (constructor <;> omega) | (simp only [List.length_set, List.length_replicate]; omega) | (simp only [List.length_set, List.length_replicate]; constructor <;> omega))), Ok.some.2 (next _ ⟨k + 1, by simp, by omega, by simp [h3], ?_⟩ (by simp only; omega))⟩⟩))))
        · rw [List.length_append, h3]; simp only [List.length_cons, List.length_nil]; constructor <;> omega
        · exact h4.put (among_range (by omega)) (among_range (by omega)) (tmod_range hc0 (by omega))
      refine Ok.gd.2 ⟨(by (first | omega | (constructor <;> omega) | (simp only [List.length_set, List.length_replicate]; omega) | (simp only [List.length_set, List.length_replicate]; constructor <;> omega))), Ok.ite.2 ⟨fun hn => ?_, fun hn => ?_⟩⟩
      · exact Ok.gd.2 ⟨by constructor <;> omega, Ok.gd.2 ⟨by constructor <;> omega, hj (-((al.getD k default).cap + 1)) (by omega)⟩⟩
      · exact hj (al.getD k default).cap (by omega)
    · refine Ok.some.2 (exit _ ?_)
      unfold m_acequialow_Some_j4
      refine Ok.some.2 ?_
      rw [hm]
      exact ⟨some_check (by omega) (by omega) hS ⟨t0, t1⟩ t2 h4 (show ol.length ≤ 4096 by omega), by simpa using h4, by simp only; omega, by show (ol.length : Int) ≤ a; omega, ⟨by simp only; omega, hS.1, hS.2, t0, t1, fun e => t2 e.symm⟩⟩
  refine Ok.ite.2 ⟨fun he => ?_, fun he => ?_⟩
  · refine Ok.gd.2 ⟨(by (first | omega | (constructor <;> omega) | (simp only [List.length_set, List.length_replicate]; omega) | (simp only [List.length_set, List.length_replicate]; constructor <;> omega))), Ok.gd.2 ⟨by omega, ?_⟩⟩
    obtain ⟨n1, n2, n3⟩ := next_ne hS.1 hS.2 (by omega)
    exact key _ n1 n2 n3
  · exact key _ hT.1 hT.2 (fun e => he e.symm)
/-! ### csr -/
theorem s_counted {n : Net} {m : Nat} (hN : n.N = m) (hm : m ≤ 4096) (hl : n.Arcs.length ≤ 16384) (he : endsOK m n.Arcs) :
    Ok (m_csr_counted n) (fun fs => fs.length = m + 1 ∧ ∀ u, u ≤ m → fs.getD u 0 = begins n.Arcs u) := by
  unfold m_csr_counted
  simp only [hN]
  refine Ok.gd.2 ⟨(by (first | omega | (constructor <;> omega) | (simp only [List.length_set, List.length_replicate]; omega) | (simp only [List.length_set, List.length_replicate]; constructor <;> omega))), Ok.gd.2 ⟨(by (first | omega | (constructor <;> omega) | (simp only [List.length_set, List.length_replicate]; omega) | (simp only [List.length_set, List.length_replicate]; constructor <;> omega))), Ok.bind.2 (Ok.lp (fun s => ∃ k : Nat, s.2 = k ∧ k ≤ n.Arcs.length ∧ Counted n.Arcs m k s.1) (fun s => (n.Arcs.length - s.2).toNat) ⟨0, rfl, by omega, Counted.start n.Arcs m (by omega)⟩ (by unfold FUEL; simp only; omega) ?_)⟩⟩
  rintro ⟨fs, x⟩ ⟨k, h1, h2, h3⟩ P next exit
  simp only at h1 h2 h3 next ⊢
  subst h1
  unfold m_csr_counted_s1
  simp only [Int.toNat_natCast]
  refine Ok.ite.2 ⟨fun hx => ?_, fun hx => ?_⟩
  · have hkl : k < n.Arcs.length := by omega
    have hfl := h3.1
    have e0 := he k hkl false
    have e1 := he k hkl true
    simp only [vtx, Bool.false_eq_true, if_false, if_true] at e0 e1
    have c0 := h3.2.2 _ e0.1 e0.2
    have c1 := h3.2.2 _ e1.1 e1.2
    have d0 := cnt_le n.Arcs (n.Arcs.getD k default).fr.toNat k
    have d1 := cnt_le n.Arcs (n.Arcs.getD k default).to.toNat k
    refine Ok.gd.2 ⟨(by (first | omega | (constructor <;> omega) | (simp only [List.length_set, List.length_replicate]; omega) | (simp only [List.length_set, List.length_replicate]; constructor <;> omega))), Ok.ite.2 ⟨fun hne => ?_, fun hne => ?_⟩⟩
    · have c2 : (fs.set ((n.Arcs.getD k default).fr + 1).toNat (fs.getD ((n.Arcs.getD k default).fr + 1).toNat 0 + 1)).getD ((n.Arcs.getD k default).to + 1).toNat 0 = cnt n.Arcs (n.Arcs.getD k default).to.toNat k := by rw [lset_ne (by omega)]; exact c1
      refine Ok.gd.2 ⟨(by (first | omega | (constructor <;> omega) | (simp only [List.length_set, List.length_replicate]; omega) | (simp only [List.length_set, List.length_replicate]; constructor <;> omega))), Ok.gd.2 ⟨(by (first | omega | (constructor <;> omega) | (simp only [List.length_set, List.length_replicate]; omega) | (simp only [List.length_set, List.length_replicate]; constructor <;> omega))), Ok.gd.2 ⟨(by (first | omega | (constructor <;> omega) | (simp only [List.length_set, List.length_replicate]; omega) | (simp only [List.length_set, List.length_replicate]; constructor <;> omega))), Ok.gd.2 ⟨(by (first | omega | (constructor <;> omega) | (simp only [List.length_set, List.length_replicate]; omega) | (simp only [List.length_set, List.length_replicate]; constructor <;> omega))), Ok.gd.2 ⟨(by (first | omega | (constructor <;> omega) | (simp only [List.length_set, List.length_replicate]; omega) | (simp only [List.length_set, List.length_replicate]; constructor <;> omega))), Ok.gd.2 ⟨(by (first | omega | (constructor <;> omega) | (simp only [List.length_set, List.length_replicate]; omega) | (simp only [List.length_set, List.length_replicate]; constructor <;> omega))), Ok.gd.2 ⟨(by (first | omega | (constructor <;> omega) | (simp only [List.length_set, List.length_replicate]; omega) | (simp only [List.length_set, List.length_replicate]; constructor <;> omega))), Ok.gd.2 ⟨(by (first | omega | (constructor <;> omega) | (simp only [List.length_set, List.length_replicate]; omega) | (simp only [List.length_set, List.length_replicate]; constructor <;> omega))), Ok.gd.2 ⟨(by (first | omega | (constructor <;> omega) | (simp only [List.length_set, List.length_replicate]; omega) | (simp only [List.length_set, List.length_replicate]; constructor <;> omega))), Ok.some.2 (next _ ⟨k + 1, by simp, by omega, ?_⟩ (by simp only; omega))⟩⟩⟩⟩⟩⟩⟩⟩⟩
      exact h3.put he hkl hne
    · refine Ok.gd.2 ⟨(by (first | omega | (constructor <;> omega) | (simp only [List.length_set, List.length_replicate]; omega) | (simp only [List.length_set, List.length_replicate]; constructor <;> omega))), Ok.some.2 (next _ ⟨k + 1, by simp, by omega, h3.skip (Classical.not_not.1 hne)⟩ (by simp only; omega))⟩
  · refine Ok.some.2 (exit _ ?_)
    have hk : k = n.Arcs.length := by omega
    subst hk
    unfold m_csr_counted_j2
    refine Ok.bind.2 (Ok.lp (fun s => ∃ v : Nat, s.2 = v ∧ v ≤ m ∧ Summed n.Arcs m v s.1) (fun s => (m - s.2).toNat) ⟨0, rfl, by omega, h3.summed⟩ (by unfold FUEL; simp only; omega) ?_)
    rintro ⟨gs, y⟩ ⟨v, g1, g2, g3⟩ P2 next2 exit2
    simp only at g1 g2 g3 next2 ⊢
    subst g1
    unfold m_csr_counted_s3
    simp only [hN, Int.toNat_natCast]
    have hgl := g3.1
    have b0 := g3.2.1 v (Nat.le_refl _)
    refine Ok.ite.2 ⟨fun hv => ?_, fun hv => ?_⟩
    · have b1 := g3.2.2 v (Nat.le_refl _) (by omega)
      have b2 := begins_small (al := n.Arcs) (v := v) (by omega) hl
      have b3 := cnt_le n.Arcs v n.Arcs.length
      have b5 : ((v : Int) + 1).toNat = v + 1 := by omega
      simp only [b5]
      refine Ok.gd.2 ⟨(by (first | omega | (constructor <;> omega) | (simp only [List.length_set, List.length_replicate]; omega) | (simp only [List.length_set, List.length_replicate]; constructor <;> omega))), Ok.gd.2 ⟨(by (first | omega | (constructor <;> omega) | (simp only [List.length_set, List.length_replicate]; omega) | (simp only [List.length_set, List.length_replicate]; constructor <;> omega))), Ok.gd.2 ⟨(by (first | omega | (constructor <;> omega) | (simp only [List.length_set, List.length_replicate]; omega) | (simp only [List.length_set, List.length_replicate]; constructor <;> omega))), Ok.gd.2 ⟨(by (first | omega | (constructor <;> omega) | (simp only [List.length_set, List.length_replicate]; omega) | (simp only [List.length_set, List.length_replicate]; constructor <;> omega))), Ok.gd.2 ⟨(by (first | omega | (constructor <;> omega) | (simp only [List.length_set, List.length_replicate]; omega) | (simp only [List.length_set, List.length_replicate]; constructor <;> omega))), Ok.gd.2 ⟨(by (first | omega | (constructor <;> omega) | (simp only [List.length_set, List.length_replicate]; omega) | (simp only [List.length_set, List.length_replicate]; constructor <;> omega))), Ok.some.2 (next2 _ ⟨v + 1, by simp, by omega, ?_⟩ (by simp only; omega))⟩⟩⟩⟩⟩⟩
      exact g3.put (by omega) rfl
    · refine Ok.some.2 (exit2 _ ?_)
      unfold m_csr_counted_j4
      have : v = m := by omega
      subst this
      exact Ok.some.2 ⟨hgl, g3.2.1⟩
/-- the residual arcs of a net, as the model gives them -/
structure CsrIs (n : Net) (m : Nat) (c : Csr) : Prop where
  hN : c.N = m
  hS : c.S = n.S
  hT : c.T = n.T
  ok : CsrOK n.Arcs m c.First c.Head c.Rev c.Cap c.Arc c.Back
theorem s_Make {n : Net} {m : Nat} (hN : n.N = m) (hc : checkE n.N n.S n.T n.Arcs = 0) (hl : lenok n.Arcs.length) :
    Ok (m_csr_Make n) (fun r => CsrIs n m r.1 ∧ r.2 = 0) := by
  have hz := checkE_zero hc
  have hm : m ≤ 4096 := by omega
  have he : endsOK m n.Arcs := endsOK_of (by rw [← hN]; exact hz.2.2.2.1)
  unfold m_csr_Make
  refine Ok.bind.2 (ok_of (s_Check n hl) (Ok.ite.2 ⟨fun h => absurd hc h, fun _ => Ok.bind.2 (Ok.mono (s_counted hN hm (by omega) he) ?_)⟩))
  rintro fs ⟨hfl, hfs⟩
  simp only [hN, Int.toNat_natCast, hfs m (Nat.le_refl _)]
  have hbs := begins_small (al := n.Arcs) (v := m) hm (by omega)
  unfold m_slices_Clone_int
  refine Ok.gd.2 ⟨(by (first | omega | (constructor <;> omega) | (simp only [List.length_set, List.length_replicate]; omega) | (simp only [List.length_set, List.length_replicate]; constructor <;> omega))), Ok.gd.2 ⟨(by (first | omega | (constructor <;> omega) | (simp only [List.length_set, List.length_replicate]; omega) | (simp only [List.length_set, List.length_replicate]; constructor <;> omega))), Ok.gd.2 ⟨(by (first | omega | (constructor <;> omega) | (simp only [List.length_set, List.length_replicate]; omega) | (simp only [List.length_set, List.length_replicate]; constructor <;> omega))), Ok.gd.2 ⟨(by (first | omega | (constructor <;> omega) | (simp only [List.length_set, List.length_replicate]; omega) | (simp only [List.length_set, List.length_replicate]; constructor <;> omega))), Ok.gd.2 ⟨(by (first | omega | (constructor <;> omega) | (simp only [List.length_set, List.length_replicate]; omega) | (simp only [List.length_set, List.length_replicate]; constructor <;> omega))), Ok.gd.2 ⟨(by (first | omega | (constructor <;> omega) | (simp only [List.length_set, List.length_replicate]; omega) | (simp only [List.length_set, List.length_replicate]; constructor <;> omega))), Ok.bind.2 (Ok.gd.2 ⟨(by (first | omega | (constructor <;> omega) | (simp only [List.length_set, List.length_replicate]; omega) | (simp only [List.length_set, List.length_replicate]; constructor <;> omega))), Ok.some.2 (Ok.bind.2 ?_)⟩)⟩⟩⟩⟩⟩⟩
  refine Ok.lp (fun s => ∃ k : Nat, s.2.2.2.2.2.2 = k ∧ k ≤ n.Arcs.length ∧ MakeAt n.Arcs m k s.2.2.2.2.2.1 s.1 s.2.1 s.2.2.1 s.2.2.2.1 s.2.2.2.2.1) (fun s => (n.Arcs.length - s.2.2.2.2.2.2).toNat) ⟨0, rfl, by omega, MakeAt.start hfl hfs⟩ (by unfold FUEL; simp only; omega) ?_
  rintro ⟨hs, rs, cs, aa, bs, nx, x⟩ ⟨k, h1, h2, h3⟩ P next exit
  simp only at h1 h2 h3 next ⊢
  subst h1
  unfold m_csr_Make_s1
  simp only [Int.toNat_natCast]
  refine Ok.ite.2 ⟨fun hx => ?_, fun hx => ?_⟩
  · have hkl : k < n.Arcs.length := by omega
    refine Ok.gd.2 ⟨(by (first | omega | (constructor <;> omega) | (simp only [List.length_set, List.length_replicate]; omega) | (simp only [List.length_set, List.length_replicate]; constructor <;> omega))), Ok.ite.2 ⟨fun heq => ?_, fun hne => ?_⟩⟩
    · exact Ok.gd.2 ⟨(by (first | omega | (constructor <;> omega) | (simp only [List.length_set, List.length_replicate]; omega) | (simp only [List.length_set, List.length_replicate]; constructor <;> omega))), Ok.some.2 (next _ ⟨k + 1, by simp, by omega, h3.skip heq⟩ (by simp only; omega))⟩
    · have e0 := he k hkl false
      have e1 := he k hkl true
      have n0 := h3.at he hkl false
      have n1 := h3.at he hkl true
      have p0 : pos n.Arcs k false < begins n.Arcs m := pos_lt hkl hne he
      have p1 : pos n.Arcs k true < begins n.Arcs m := pos_lt hkl hne he
      simp only [vtx, Bool.false_eq_true, if_false, if_true] at e0 e1 n0 n1
      have hh := h3
      obtain ⟨⟨l0, l1, l2, l3, l4, l5⟩, _, _⟩ := h3
      unfold m_csr_Make_1
      simp only [n0, Int.toNat_natCast]
      have n2 : (nx.set (n.Arcs.getD k default).fr.toNat ((pos n.Arcs k false : Int) + 1)).getD (n.Arcs.getD k default).to.toNat 0 = (pos n.Arcs k true : Nat) := by rw [lset_ne (by omega)]; exact n1
      refine Ok.bind.2 (Ok.gd.2 ⟨(by (first | omega | (constructor <;> omega) | (simp only [List.length_set, List.length_replicate]; omega) | (simp only [List.length_set, List.length_replicate]; constructor <;> omega))), Ok.gd.2 ⟨(by (first | omega | (constructor <;> omega) | (simp only [List.length_set, List.length_replicate]; omega) | (simp only [List.length_set, List.length_replicate]; constructor <;> omega))), Ok.gd.2 ⟨(by (first | omega | (constructor <;> omega) | (simp only [List.length_set, List.length_replicate]; omega) | (simp only [List.length_set, List.length_replicate]; constructor <;> omega))), Ok.gd.2 ⟨(by (first | omega | (constructor <;> omega) | (simp only [List.length_set, List.length_replicate]; omega) | (simp only [List.length_set, List.length_replicate]; constructor <;> omega))), Ok.gd.2 ⟨(by (first | omega | (constructor <;> omega) | (simp only [List.length_set, List.length_replicate]; omega) | (simp only [List.length_set, List.length_replicate]; constructor <;> omega))), Ok.gd.2 ⟨(by (first | omega | (constructor <;> omega) | (simp only [List.length_set, List.length_replicate]; omega) | (simp only [List.length_set, List.length_replicate]; constructor <;> omega))), Ok.gd.2 ⟨(by (first | omega | (constructor <;> omega) | (simp only [List.length_set, List.length_replicate]; omega) | (simp only [List.length_set, List.length_replicate]; constructor <;> omega))), Ok.gd.2 ⟨(by (first | omega | (constructor <;> omega) | (simp only [List.length_set, List.length_replicate]; omega) | (simp only [List.length_set, List.length_replicate]; constructor <;> omega))), Ok.some.2 (Ok.bind.2 ?_)⟩⟩⟩⟩⟩⟩⟩⟩)
      simp only [n2, Int.toNat_natCast]
      refine Ok.gd.2 ⟨(by (first | omega | (constructor <;> omega) | (simp only [List.length_set, List.length_replicate]; omega) | (simp only [List.length_set, List.length_replicate]; constructor <;> omega))), Ok.gd.2 ⟨(by (first | omega | (constructor <;> omega) | (simp only [List.length_set, List.length_replicate]; omega) | (simp only [List.length_set, List.length_replicate]; constructor <;> omega))), Ok.gd.2 ⟨(by (first | omega | (constructor <;> omega) | (simp only [List.length_set, List.length_replicate]; omega) | (simp only [List.length_set, List.length_replicate]; constructor <;> omega))), Ok.gd.2 ⟨(by (first | omega | (constructor <;> omega) | (simp only [List.length_set, List.length_replicate]; omega) | (simp only [List.length_set, List.length_replicate]; constructor <;> omega))), Ok.gd.2 ⟨(by (first | omega | (constructor <;> omega) | (simp only [List.length_set, List.length_replicate]; omega) | (simp only [List.length_set, List.length_replicate]; constructor <;> omega))), Ok.gd.2 ⟨(by (first | omega | (constructor <;> omega) | (simp only [List.length_set, List.length_replicate]; omega) | (simp only [List.length_set, List.length_replicate]; constructor <;> omega))), Ok.gd.2 ⟨(by (first | omega | (constructor <;> omega) | (simp only [List.length_set, List.length_replicate]; omega) | (simp only [List.length_set, List.length_replicate]; constructor <;> omega))), Ok.gd.2 ⟨(by (first | omega | (constructor <;> omega) | (simp only [List.length_set, List.length_replicate]; omega) | (simp only [List.length_set, List.length_replicate]; constructor <;> omega))), Ok.some.2 (Ok.gd.2 ⟨(by (first | omega | (constructor <;> omega) | (simp only [List.length_set, List.length_replicate]; omega) | (simp only [List.length_set, List.length_replicate]; constructor <;> omega))), Ok.gd.2 ⟨(by (first | omega | (constructor <;> omega) | (simp only [List.length_set, List.length_replicate]; omega) | (simp only [List.length_set, List.length_replicate]; constructor <;> omega))), Ok.gd.2 ⟨(by (first | omega | (constructor <;> omega) | (simp only [List.length_set, List.length_replicate]; omega) | (simp only [List.length_set, List.length_replicate]; constructor <;> omega))), Ok.some.2 (next _ ⟨k + 1, by simp, by omega, ?_⟩ (by simp only; omega))⟩⟩⟩)⟩⟩⟩⟩⟩⟩⟩⟩
      exact hh.put he hkl hne
  · refine Ok.some.2 (exit _ ?_)
    unfold m_csr_Make_j2
    have hk : k = n.Arcs.length := by omega
    subst hk
    exact Ok.some.2 ⟨⟨hN, rfl, rfl, h3.done hfl hfs⟩, rfl⟩

end Go.Acq
namespace Go.Acq
open Go
set_option linter.unusedSimpArgs false
/-- the first place at which a row that rises has x or more -/
def FirstAt (l : List Int) (x : Int) (r : Nat) : Prop := r ≤ l.length ∧ (∀ k, k < r → l.getD k 0 < x) ∧ (r < l.length → x ≤ l.getD r 0)
theorem s_SearchInts {l : List Int} {x : Int} (hl : l.length ≤ 4611686018427387904) (hm : ∀ i j, i ≤ j → j < l.length → l.getD i 0 ≤ l.getD j 0) : Ok (m_sort_SearchInts l x) (fun r => ∃ n : Nat, r = n ∧ FirstAt l x n) := by
  unfold m_sort_SearchInts m_sort_Search_SearchInts_1
  refine Ok.bind.2 (Ok.bind.2 (Ok.lp (fun s => ∃ i j : Nat, s = ((i : Int), (j : Int)) ∧ i ≤ j ∧ j ≤ l.length ∧ (∀ k, k < i → l.getD k 0 < x) ∧ (j < l.length → x ≤ l.getD j 0)) (fun s => (s.2 - s.1).toNat) ⟨0, l.length, rfl, by omega, by omega, fun k h => by omega, fun h => by omega⟩ (by unfold FUEL; omega) ?_))
  rintro s ⟨i, j, rfl, h1, h2, h3, h4⟩ P next exit
  unfold m_sort_Search_SearchInts_1_s1 m_sort_SearchInts_1
  have next : ∀ i' j' : Nat, i' ≤ j' → j' ≤ l.length → (∀ k, k < i' → l.getD k 0 < x) → (j' < l.length → x ≤ l.getD j' 0) → j' - i' < j - i → P (.inl ((i' : Int), (j' : Int))) := fun i' j' a b c d e => next _ ⟨i', j', rfl, a, b, c, d⟩ (by simp only; omega)
  simp only
  refine Ok.ite.2 ⟨fun hx => ?_, fun hx => Ok.some.2 (exit _ ?_)⟩
  · have hd : Int.fdiv ((i : Int) + j) (2 ^ 1) = ((i + j) / 2 : Nat) := by rw [Int.fdiv_eq_ediv_of_nonneg _ (by omega)]; omega
    simp only [hd, Int.toNat_natCast]
    refine Ok.gd.2 ⟨(by (first | omega | (constructor <;> omega) | (simp only [List.length_set, List.length_replicate]; omega) | (simp only [List.length_set, List.length_replicate]; constructor <;> omega))), Ok.gd.2 ⟨(by (first | omega | (constructor <;> omega) | (simp only [List.length_set, List.length_replicate]; omega) | (simp only [List.length_set, List.length_replicate]; constructor <;> omega))), Ok.gd.2 ⟨(by (first | omega | (constructor <;> omega) | (simp only [List.length_set, List.length_replicate]; omega) | (simp only [List.length_set, List.length_replicate]; constructor <;> omega))), Ok.bind.2 (Ok.gd.2 ⟨(by (first | omega | (constructor <;> omega) | (simp only [List.length_set, List.length_replicate]; omega) | (simp only [List.length_set, List.length_replicate]; constructor <;> omega))), Ok.some.2 (Ok.ite.2 ⟨fun hb => ?_, fun hb => ?_⟩)⟩)⟩⟩⟩
    · have hb : l.getD ((i + j) / 2) 0 < x := by
        have : ¬ x ≤ l.getD ((i + j) / 2) 0 := by simpa using hb
        omega
      refine Ok.gd.2 ⟨(by (first | omega | (constructor <;> omega) | (simp only [List.length_set, List.length_replicate]; omega) | (simp only [List.length_set, List.length_replicate]; constructor <;> omega))), Ok.some.2 ?_⟩
      have := next ((i + j) / 2 + 1) j (by omega) h2 (fun k hk => by have := hm k ((i + j) / 2) (by omega) (by omega); omega) h4 (by omega)
      rwa [show (((i + j) / 2 + 1 : Nat) : Int) = (((i + j) / 2 : Nat) : Int) + 1 by omega] at this
    · have hb : x ≤ l.getD ((i + j) / 2) 0 := by
        have : ¬ ¬ x ≤ l.getD ((i + j) / 2) 0 := by simpa using hb
        omega
      exact Ok.some.2 (next i ((i + j) / 2) (by omega) (by omega) h3 (fun _ => hb) (by omega))
  · unfold m_sort_Search_SearchInts_1_j2
    have : i = j := by omega
    subst this
    exact Ok.some.2 (Ok.some.2 ⟨i, rfl, h2, h3, h4⟩)
theorem s_Len (c : Csr) : m_csr_Len c = some (c.Head.length : Int) := rfl
/-- where an arc begins -/
theorem s_Tail {n : Net} {m : Nat} {c : Csr} (hc : CsrIs n m c) (he : endsOK m n.Arcs) (hm : m ≤ 4096) (hl : n.Arcs.length ≤ 16384) {i : Nat} {s : Bool} (hi : i < n.Arcs.length) (hne : (n.Arcs.getD i default).fr ≠ (n.Arcs.getD i default).to) :
    m_csr_Tail c (pos n.Arcs i s : Nat) = some (vtx (n.Arcs.getD i default) s, true) := by
  refine ok_eq ?_
  have hp := pos_lt (s := s) hi hne he
  have hbs := begins_small (al := n.Arcs) (v := m) (by omega) (by omega)
  have lf := hc.ok.lf
  have lh := hc.ok.lh
  unfold m_csr_Tail
  refine Ok.ite.2 ⟨fun h => by omega, fun _ => Ok.bind.2 (ok_of (s_Len c) ?_)⟩
  unfold m_csr_Tail_j1
  refine Ok.ite.2 ⟨fun h => by have := of_decide_eq_true h; omega, fun _ => Ok.gd.2 ⟨(by (first | omega | (constructor <;> omega) | (simp only [List.length_set, List.length_replicate]; omega) | (simp only [List.length_set, List.length_replicate]; constructor <;> omega))), ?_⟩⟩
  refine Ok.bind.2 (Ok.mono (s_SearchInts (by omega) fun a b hab hb => ?_) ?_)
  · rw [hc.ok.hf a (by omega), hc.ok.hf b (by omega)]
    have := begins_mono (al := n.Arcs) hab
    omega
  rintro r ⟨k, rfl, g1, g2, g3⟩
  have hv := he i hi s
  obtain ⟨v, hv'⟩ : ∃ v : Nat, vtx (n.Arcs.getD i default) s = v := ⟨(vtx (n.Arcs.getD i default) s).toNat, by omega⟩
  have hcl := cnt_lt (s := s) hi hne hv.1
  have hpos : pos n.Arcs i s = begins n.Arcs v + cnt n.Arcs v i := by unfold pos; rw [hv', Int.toNat_natCast]
  rw [hv'] at hv hcl ⊢
  rw [Int.toNat_natCast] at hcl
  have hb1 : begins n.Arcs (v + 1) = begins n.Arcs v + cnt n.Arcs v n.Arcs.length := rfl
  have e : k = v + 1 := by
    rcases Nat.lt_trichotomy k (v + 1) with h | h | h
    · have h3 := g3 (by omega)
      rw [hc.ok.hf k (by omega)] at h3
      have := begins_mono (al := n.Arcs) (show k ≤ v by omega)
      omega
    · exact h
    · have h3 := g2 (v + 1) h
      rw [hc.ok.hf (v + 1) (by omega)] at h3
      omega
  subst e
  refine Ok.gd.2 ⟨(by (first | omega | (constructor <;> omega) | (simp only [List.length_set, List.length_replicate]; omega) | (simp only [List.length_set, List.length_replicate]; constructor <;> omega))), Ok.some.2 ?_⟩
  simp
end Go.Acq
namespace Go.Acq
open Go
set_option linter.unusedSimpArgs false
/-- what the first k arcs bring a vertex -/
def ex (al : List Arc) (f : List Int) (v : Int) : Nat → Int
  | 0 => 0
  | k + 1 => ex al f v k - (if (al.getD k default).fr = v then f.getD k 0 else 0) + (if (al.getD k default).to = v then f.getD k 0 else 0)
/-- all that the first k arcs bear -/
def tot (f : List Int) : Nat → Int
  | 0 => 0
  | k + 1 => tot f k + f.getD k 0
/-- what the first k arcs bring the vertices below j -/
def part (al : List Arc) (f : List Int) (j : Int) : Nat → Int
  | 0 => 0
  | k + 1 => part al f j k - (if (al.getD k default).fr < j then f.getD k 0 else 0) + (if (al.getD k default).to < j then f.getD k 0 else 0)
theorem ex_le {al : List Arc} {f : List Int} (v : Int) {n : Nat} (h : ∀ i, i < n → 0 ≤ f.getD i 0) : ∀ k, k ≤ n → -tot f k ≤ ex al f v k ∧ ex al f v k ≤ tot f k
  | 0, _ => by simp [ex, tot]
  | k + 1, hk => by
    have ih := ex_le (al := al) v h k (by omega)
    have := h k hk
    simp only [ex, tot]
    split <;> split <;> omega
theorem tot_mono {f : List Int} {n : Nat} (h : ∀ i, i < n → 0 ≤ f.getD i 0) : ∀ j k, j ≤ k → k ≤ n → tot f j ≤ tot f k
  | j, 0, hj, _ => by have : j = 0 := by omega
                      subst this; exact Int.le_refl _
  | j, k + 1, hj, hk => by
    rcases Nat.lt_or_ge j (k + 1) with h1 | h1
    · have := tot_mono h j k (by omega) (by omega)
      have := h k hk
      simp only [tot]; omega
    · rw [show j = k + 1 by omega]; exact Int.le_refl _
theorem sumL_tot {f : List Int} : ∀ (al : List Arc) (left : Int) (k : Nat), (sumL left (al.drop k)).isSome = true → 0 ≤ left → k ≤ al.length → (∀ i, i < al.length → 0 ≤ f.getD i 0 ∧ f.getD i 0 ≤ (al.getD i default).cap) → tot f al.length - tot f k ≤ left := by
  intro al left k
  induction hn : al.length - k generalizing left k with
  | zero =>
    intro _ h0 hk _
    rw [show k = al.length by omega]; omega
  | succ n ih =>
    intro hs h0 hk hf
    have hkl : k < al.length := by omega
    rw [sumL_drop hkl] at hs
    by_cases hc : (al.getD k default).cap < 0 ∨ left < (al.getD k default).cap
    · rw [if_pos hc] at hs; cases hs
    · rw [if_neg hc] at hs
      have := ih (left - (al.getD k default).cap) (k + 1) (by omega) hs (by omega) (by omega) hf
      have hfk := hf k hkl
      simp only [tot] at this
      omega
/-- the numbers are within the capacities of a right net -/
def FwithinP (n : Net) (f : List Int) : Prop := checkE n.N n.S n.T n.Arcs = 0 ∧ f.length = n.Arcs.length ∧ ∀ i, i < n.Arcs.length → 0 ≤ f.getD i 0 ∧ f.getD i 0 ≤ (n.Arcs.getD i default).cap
theorem FwithinP.tot {n : Net} {f : List Int} (h : FwithinP n f) : ∀ k, k ≤ n.Arcs.length → 0 ≤ tot f k ∧ tot f k ≤ 4611686018427387904 := by
  intro k hk
  have hz := checkE_zero h.1
  have h1 := sumL_tot (f := f) n.Arcs 4611686018427387904 0 (by simpa using hz.2.2.2.2.2) (by omega) (by omega) h.2.2
  have h2 := tot_mono (fun i hi => (h.2.2 i hi).1) k n.Arcs.length hk (Nat.le_refl _)
  have h3 := tot_mono (fun i hi => (h.2.2 i hi).1) 0 k (by omega) hk
  simp only [Acq.tot] at h1 h3
  omega
end Go.Acq
namespace Go.Acq
open Go
set_option linter.unusedSimpArgs false
theorem getD_appL {α : Type} {xs ys : List α} {d : α} {i : Nat} (h : i < xs.length) : (xs ++ ys).getD i d = xs.getD i d := by
  rw [List.getD_eq_getElem?_getD, List.getElem?_append_left h, List.getD_eq_getElem?_getD]
theorem getD_appR {α : Type} {xs ys : List α} {d : α} {i : Nat} (h : xs.length ≤ i) : (xs ++ ys).getD i d = ys.getD (i - xs.length) d := by
  rw [List.getD_eq_getElem?_getD, List.getElem?_append_right h, List.getD_eq_getElem?_getD]
/-- of whom a place is -/
theorem pos_row {al : List Arc} {i v : Nat} {s : Bool} (hi : i < al.length) (hne : (al.getD i default).fr ≠ (al.getD i default).to) (h0 : 0 ≤ vtx (al.getD i default) s) (h1 : begins al v ≤ pos al i s) (h2 : pos al i s < begins al (v + 1)) : vtx (al.getD i default) s = v ∧ pos al i s = begins al v + cnt al v i := by
  obtain ⟨u, hu⟩ : ∃ u : Nat, vtx (al.getD i default) s = u := ⟨(vtx (al.getD i default) s).toNat, by omega⟩
  have hcl := cnt_lt (s := s) hi hne h0
  have hpos : pos al i s = begins al u + cnt al u i := by unfold pos; rw [hu, Int.toNat_natCast]
  rw [hu, Int.toNat_natCast] at hcl
  have hb1 : begins al (u + 1) = begins al u + cnt al u al.length := rfl
  have : u = v := by
    rcases Nat.lt_trichotomy u v with h | h | h
    · have := begins_mono (al := al) (show u + 1 ≤ v by omega); omega
    · exact h
    · have := begins_mono (al := al) (show v + 1 ≤ u by omega); omega
  subst this
  exact ⟨hu, hpos⟩
end Go.Acq
namespace Go.Acq
open Go
set_option linter.unusedSimpArgs false
/-- is it in a side? -/
def inS (c : List Bool) (v : Int) : Bool := c.getD v.toNat false
/-- what goes across by the first k arcs -/
def acK (al : List Arc) (f : List Int) (c : List Bool) : Nat → Int
  | 0 => 0
  | k + 1 => acK al f c k + (if inS c (al.getD k default).fr = true ∧ inS c (al.getD k default).to = false then f.getD k 0 else 0) - (if inS c (al.getD k default).fr = false ∧ inS c (al.getD k default).to = true then f.getD k 0 else 0)
/-- all capacities -/
def totC (al : List Arc) : Nat → Int
  | 0 => 0
  | k + 1 => totC al k + (al.getD k default).cap
theorem totC_tot (al : List Arc) : ∀ k, k ≤ al.length → totC al k = tot (al.map (·.cap)) k
  | 0, _ => rfl
  | k + 1, hk => by
    simp only [totC, tot, totC_tot al k (by omega)]
    rw [List.getD_eq_getElem?_getD, List.getD_eq_getElem?_getD, List.getElem?_map, List.getElem?_eq_getElem (show k < al.length by omega)]; rfl
theorem getD_caps {al : List Arc} {i : Nat} (hi : i < al.length) : (al.map (·.cap)).getD i 0 = (al.getD i default).cap := by
  rw [List.getD_eq_getElem?_getD, List.getD_eq_getElem?_getD, List.getElem?_map, List.getElem?_eq_getElem hi]; rfl
theorem caps_within {n : Net} (h : checkE n.N n.S n.T n.Arcs = 0) (hc : ∀ i, i < n.Arcs.length → 0 ≤ (n.Arcs.getD i default).cap) : FwithinP n (n.Arcs.map (·.cap)) :=
  ⟨h, by simp, fun i hi => by rw [getD_caps hi]; exact ⟨hc i hi, Int.le_refl _⟩⟩
theorem check_caps {n : Net} (h : checkE n.N n.S n.T n.Arcs = 0) : ∀ i, i < n.Arcs.length → 0 ≤ (n.Arcs.getD i default).cap := fun i hi => by
  have := List.all_eq_true.1 (checkE_zero h).2.2.2.2.1 _ (getD_mem hi default)
  simpa [capB] using this
theorem totC_le {n : Net} (h : checkE n.N n.S n.T n.Arcs = 0) : ∀ k, k ≤ n.Arcs.length → 0 ≤ totC n.Arcs k ∧ totC n.Arcs k ≤ 4611686018427387904 := fun k hk => by
  rw [totC_tot _ k hk]
  have := (caps_within h (check_caps h)).tot k (by simpa using hk)
  exact this
end Go.Acq
namespace Go.Acq
open Go
set_option linter.unusedSimpArgs false
/-- who is reached -/
inductive Reach (G : Nat → Nat → Prop) (s : Nat) : Nat → Prop
  | refl : Reach G s s
  | step {u v : Nat} : Reach G s u → G u v → Reach G s v
theorem Reach.trans {G : Nat → Nat → Prop} {a b c : Nat} (h : Reach G a b) (g : Reach G b c) : Reach G a c := by
  induction g with
  | refl => exact h
  | step _ h2 ih => exact .step ih h2
theorem Reach.mono {G K : Nat → Nat → Prop} {a b : Nat} (h : Reach G a b) (hk : ∀ u v, G u v → K u v) : Reach K a b := by
  induction h with
  | refl => exact .refl
  | step _ h2 ih => exact .step ih (hk _ _ h2)
/-- so many are in, of the first k -/
def tc (l : List Bool) : Nat → Nat
  | 0 => 0
  | k + 1 => tc l k + if l.getD k false = true then 1 else 0
theorem tc_set {l : List Bool} {i : Nat} (hi : i < l.length) (hf : l.getD i false = false) : ∀ k : Nat, tc (l.set i true) k = tc l k + (if i < k then 1 else 0)
  | 0 => by simp [tc]
  | k + 1 => by
    have ih := tc_set hi hf k
    simp only [tc, ih, lset]
    by_cases c : i = k
    · subst c
      rw [if_neg (show ¬ i < i by omega), if_pos (show i = i ∧ i < l.length from ⟨rfl, hi⟩), hf, if_pos rfl, if_pos (show i < i + 1 by omega)]; rfl
    · rw [if_neg (show ¬(i = k ∧ i < l.length) from fun h => c h.1)]
      by_cases c2 : i < k
      · rw [if_pos c2, if_pos (show i < k + 1 by omega)]; omega
      · rw [if_neg c2, if_neg (show ¬ i < k + 1 by omega)]; omega
/-! ### the walk over all, whatever may be gone -/
/-- whom one has met -/
structure MetI (G : Nat → Nat → Prop) (s m : Nat) (xs : List Bool) (row : List Int) : Prop where
  len : xs.length = m
  nat : ∀ q, q < row.length → ∃ v : Nat, row.getD q 0 = v ∧ v < m ∧ xs.getD v false = true ∧ Reach G s v
  has : ∀ v, v < m → xs.getD v false = true → ∃ q, q < row.length ∧ row.getD q 0 = (v : Int)
  cnt : row.length = tc xs m
theorem MetI.put {G : Nat → Nat → Prop} {s m v : Nat} {xs : List Bool} {row : List Int} (h : MetI G s m xs row) (hv : v < m) (hf : xs.getD v false = false) (hr : Reach G s v) : MetI G s m (xs.set v true) (row ++ [(v : Int)]) := by
  have hl := h.len
  refine ⟨by simp [hl], fun q hq => ?_, fun u hu hx => ?_, ?_⟩
  · rw [List.length_append, List.length_singleton] at hq
    rcases Nat.lt_or_ge q row.length with h1 | h1
    · obtain ⟨u, h2, h3, h4, h5⟩ := h.nat q h1
      refine ⟨u, by rw [getD_appL h1]; exact h2, h3, ?_, h5⟩
      rw [lset]; split
      · rfl
      · exact h4
    · refine ⟨v, ?_, hv, by rw [lset, if_pos ⟨rfl, by omega⟩], hr⟩
      rw [getD_appR h1, show q - row.length = 0 by omega]; rfl
  · rw [lset] at hx
    by_cases c : v = u
    · refine ⟨row.length, by simp, ?_⟩
      rw [getD_appR (Nat.le_refl _), Nat.sub_self, ← c]; rfl
    · rw [if_neg (fun h => c h.1)] at hx
      obtain ⟨q, h1, h2⟩ := h.has u hu hx
      exact ⟨q, by rw [List.length_append]; omega, by rw [getD_appL h1]; exact h2⟩
  · rw [List.length_append, List.length_singleton, tc_set (by omega) hf, if_pos hv, h.cnt]
/-! ### by what a flow leaves -/
end Go.Acq
namespace Go.Acq
open Go
set_option linter.unusedSimpArgs false
/-- what the first k arcs bring the vertices below j that are not in -/
def partC (al : List Arc) (f : List Int) (c : List Bool) (j : Int) : Nat → Int
  | 0 => 0
  | k + 1 => partC al f c j k - (if (al.getD k default).fr < j ∧ inS c (al.getD k default).fr = false then f.getD k 0 else 0) + (if (al.getD k default).to < j ∧ inS c (al.getD k default).to = false then f.getD k 0 else 0)
theorem partC_succ {al : List Arc} {f : List Int} {c : List Bool} (j : Int) : ∀ k, partC al f c (j + 1) k = partC al f c j k + (if inS c j = false then ex al f j k else 0)
  | 0 => by simp [partC, ex]
  | k + 1 => by
    have ih := partC_succ (al := al) (f := f) (c := c) j k
    simp only [partC, ex, ih]
    have e1 : ∀ x : Int, (if x < j + 1 ∧ inS c x = false then f.getD k 0 else 0) = (if x < j ∧ inS c x = false then f.getD k 0 else 0) + (if x = j ∧ inS c j = false then f.getD k 0 else 0) := fun x => by
      by_cases h1 : x < j
      · by_cases h3 : inS c x = false
        · rw [if_pos ⟨by omega, h3⟩, if_pos ⟨h1, h3⟩, if_neg (fun h => by omega)]; omega
        · rw [if_neg (fun h => h3 h.2), if_neg (fun h => h3 h.2), if_neg (fun h => by omega)]; omega
      · by_cases h2 : x = j
        · subst h2
          by_cases h3 : inS c x = false
          · rw [if_pos ⟨by omega, h3⟩, if_neg (fun h => h1 h.1), if_pos ⟨rfl, h3⟩]; omega
          · rw [if_neg (fun h => h3 h.2), if_neg (fun h => h3 h.2), if_neg (fun h => h3 h.2)]; omega
        · rw [if_neg (fun h => by omega), if_neg (fun h => by omega), if_neg (fun h => h2 h.1)]; omega
    rw [e1, e1]
    by_cases h : inS c j = false
    · simp only [h, and_true, if_true]
      omega
    · simp only [h, Bool.not_eq_false, and_false, if_false, ite_false, reduceCtorEq]
      omega
theorem partC_none {al : List Arc} {f : List Int} {c : List Bool} {m : Nat} (he : endsOK m al) : ∀ k, k ≤ al.length → partC al f c 0 k = 0
  | 0, _ => rfl
  | k + 1, hk => by
    have h0 := he k hk false
    have h1 := he k hk true
    simp only [vtx, Bool.false_eq_true, if_false, if_true] at h0 h1
    simp only [partC, partC_none he k (by omega)]
    rw [if_neg (fun h => by omega), if_neg (fun h => by omega)]; rfl
theorem partC_all {al : List Arc} {f : List Int} {c : List Bool} {m : Nat} (he : endsOK m al) : ∀ k, k ≤ al.length → partC al f c m k = acK al f c k
  | 0, _ => rfl
  | k + 1, hk => by
    have h0 := he k hk false
    have h1 := he k hk true
    simp only [vtx, Bool.false_eq_true, if_false, if_true] at h0 h1
    simp only [partC, acK, partC_all he k (by omega)]
    obtain ⟨A, hA⟩ : ∃ A, al.getD k default = A := ⟨_, rfl⟩
    obtain ⟨F, hF⟩ : ∃ F, f.getD k 0 = F := ⟨_, rfl⟩
    rw [hA] at h0 h1 ⊢
    rw [hF]
    cases a : inS c A.fr <;> cases b : inS c A.to <;> simp [h0.2, h1.2] <;> omega
end Go.Acq
namespace Go.Acq
open Go
set_option linter.unusedSimpArgs false
/-! ### sums -/
/-! ### the row as a graph -/
def hd (c : Csr) (j : Nat) : Nat := (c.Head.getD j 0).toNat
def rv (c : Csr) (j : Nat) : Nat := (c.Rev.getD j 0).toNat
def fs (c : Csr) (v : Nat) : Nat := (c.First.getD v 0).toNat
def tl (c : Csr) (j : Nat) : Nat := hd c (rv c j)
def bk (c : Csr) (j : Nat) : Bool := c.Back.getD j false
def cp (c : Csr) (j : Nat) : Int := max (c.Cap.getD j 0) (c.Cap.getD (rv c j) 0)
structure Row (n : Net) (m L : Nat) (c : Csr) : Prop where
  is : CsrIs n m c
  chk : checkE n.N n.S n.T n.Arcs = 0
  hm : n.N = m
  hL : begins n.Arcs m = L
section row
variable {n : Net} {m L : Nat} {c : Csr}
theorem Row.he (r : Row n m L c) : endsOK m n.Arcs := endsOK_of (by rw [← r.hm]; exact (checkE_zero r.chk).2.2.2.1)
theorem Row.bd (r : Row n m L c) : 2 ≤ m ∧ m ≤ 4096 ∧ n.Arcs.length ≤ 16384 ∧ L ≤ 67108864 := by
  have hz := checkE_zero r.chk
  have := r.hm
  have hb := begins_small (al := n.Arcs) (v := m) (by omega) (by omega)
  have := r.hL
  omega
theorem Row.ends (r : Row n m L c) : (∃ S : Nat, n.S = S ∧ c.S = S ∧ S < m) ∧ (∃ T : Nat, n.T = T ∧ c.T = T ∧ T < m) ∧ n.S ≠ n.T ∧ c.N = m := by
  have hz := checkE_zero r.chk
  simp only [vertexB, decide_eq_true_eq] at hz
  have h1 := r.hm
  have h2 := r.is.hS
  have h3 := r.is.hT
  exact ⟨⟨n.S.toNat, by omega, by omega, by omega⟩, ⟨n.T.toNat, by omega, by omega, by omega⟩, hz.2.2.1.2.2, r.is.hN⟩
theorem Row.caps (r : Row n m L c) : ∀ i, i < n.Arcs.length → 0 ≤ (n.Arcs.getD i default).cap ∧ (n.Arcs.getD i default).cap ≤ 4611686018427387904 := fun i hi => by
  have h0 := check_caps r.chk i hi
  have h1 := totC_le r.chk (i + 1) hi
  have h2 := totC_le r.chk i (by omega)
  simp only [totC] at h1
  omega
theorem Row.lens (r : Row n m L c) : c.First.length = m + 1 ∧ c.Head.length = L ∧ c.Rev.length = L ∧ c.Cap.length = L ∧ c.Arc.length = L ∧ c.Back.length = L := by
  have h := r.is.ok
  rw [← r.hL]
  exact ⟨h.lf, h.lh, h.lr, h.lc, h.la, h.lb⟩
/-- what stands at a place -/
theorem Row.at (r : Row n m L c) {j : Nat} (hj : j < L) : ∃ i s, i < n.Arcs.length ∧ (n.Arcs.getD i default).fr ≠ (n.Arcs.getD i default).to ∧ pos n.Arcs i s = j ∧ c.Head.getD j 0 = (hd c j : Nat) ∧ (hd c j : Int) = vtx (n.Arcs.getD i default) (!s) ∧ (tl c j : Int) = vtx (n.Arcs.getD i default) s ∧
    c.Rev.getD j 0 = (rv c j : Nat) ∧ rv c j = pos n.Arcs i (!s) ∧ c.Cap.getD j 0 = (if s then 0 else (n.Arcs.getD i default).cap) ∧ c.Arc.getD j 0 = i ∧ bk c j = s := by
  obtain ⟨i, s, hi, hne, hp, q1, q2, q3, q4, q5⟩ := r.is.ok.place (by rw [r.hL]; exact hj)
  have hv := r.he i hi (!s)
  have hv2 := r.he i hi s
  have hr : rv c j = pos n.Arcs i (!s) := by unfold rv; rw [q2, Int.toNat_natCast]
  refine ⟨i, s, hi, hne, hp, by unfold hd; omega, by unfold hd; omega, ?_, by unfold rv; omega, hr, q3, q4, q5⟩
  unfold tl hd
  rw [hr, (r.is.ok.hat i hi hne (!s)).1, Bool.not_not]; omega
theorem Row.head (r : Row n m L c) {j : Nat} (hj : j < L) : c.Head.getD j 0 = (hd c j : Nat) ∧ hd c j < m := by
  obtain ⟨i, s, hi, hne, hp, q1, q2, q3, q4, q5, q6, q7, q8⟩ := r.at hj
  have hv := r.he i hi (!s)
  exact ⟨q1, by omega⟩
theorem Row.rev (r : Row n m L c) {j : Nat} (hj : j < L) : c.Rev.getD j 0 = (rv c j : Nat) ∧ rv c j < L ∧ rv c (rv c j) = j ∧ rv c j ≠ j := by
  obtain ⟨i, s, hi, hne, hp, q1, q2, q3, q4, q5, q6, q7, q8⟩ := r.at hj
  have hq : pos n.Arcs i (!s) < L := by rw [← r.hL]; exact pos_lt hi hne r.he
  refine ⟨q4, by rw [q5]; exact hq, ?_, fun e => ?_⟩
  · have := (r.is.ok.hat i hi hne (!s)).2.1
    rw [q5]; unfold rv; rw [this, Int.toNat_natCast, Bool.not_not, hp]
  · have := (pos_inj r.he hi hi hne hne (q5.symm.trans (e.trans hp.symm))).2
    cases s <;> cases this
theorem Row.tlh (r : Row n m L c) {j : Nat} (hj : j < L) : tl c j < m ∧ tl c (rv c j) = hd c j ∧ hd c (rv c j) = tl c j ∧ tl c j ≠ hd c j := by
  obtain ⟨i, s, hi, hne, hp, q1, q2, q3, q4, q5, q6, q7, q8⟩ := r.at hj
  have hv := r.he i hi s
  refine ⟨by omega, ?_, rfl, fun e => ?_⟩
  · unfold tl; rw [(r.rev hj).2.2.1]
  · apply hne
    have : vtx (n.Arcs.getD i default) s = vtx (n.Arcs.getD i default) (!s) := by omega
    cases s <;> simpa [vtx, eq_comm] using this
theorem Row.back (r : Row n m L c) {j : Nat} (hj : j < L) : bk c (rv c j) = !bk c j := by
  obtain ⟨i, s, hi, hne, hp, q1, q2, q3, q4, q5, q6, q7, q8⟩ := r.at hj
  unfold bk at q8 ⊢
  rw [q5, (r.is.ok.hat i hi hne (!s)).2.2.2.2, q8]
theorem Row.first (r : Row n m L c) : (∀ v, v ≤ m → c.First.getD v 0 = (fs c v : Nat) ∧ fs c v = begins n.Arcs v) ∧ fs c 0 = 0 ∧ fs c m = L ∧ ∀ v, v < m → fs c v ≤ fs c (v + 1) ∧ fs c (v + 1) ≤ L := by
  have h : ∀ v, v ≤ m → c.First.getD v 0 = (fs c v : Nat) ∧ fs c v = begins n.Arcs v := fun v hv => by
    have := r.is.ok.hf v hv
    unfold fs; rw [this, Int.toNat_natCast]; exact ⟨rfl, rfl⟩
  refine ⟨h, by rw [(h 0 (by omega)).2]; rfl, by rw [(h m (Nat.le_refl _)).2]; exact r.hL, fun v hv => ?_⟩
  rw [(h v (by omega)).2, (h (v + 1) (by omega)).2, ← r.hL]
  exact ⟨begins_mono (by omega), begins_mono (by omega)⟩
/-- the places of a vertex are those that begin there -/
theorem Row.range (r : Row n m L c) {j u : Nat} (hj : j < L) (hu : u < m) : (fs c u ≤ j ∧ j < fs c (u + 1)) ↔ tl c j = u := by
  obtain ⟨i, s, hi, hne, hp, q1, q2, q3, q4, q5, q6, q7, q8⟩ := r.at hj
  have hv := r.he i hi s
  have f1 := (r.first.1 u (by omega)).2
  have f2 := (r.first.1 (u + 1) (by omega)).2
  constructor
  · rintro ⟨h1, h2⟩
    have := (pos_row (v := u) hi hne hv.1 (by omega) (by omega)).1
    omega
  · intro h
    have hcl := cnt_lt (s := s) hi hne hv.1
    have hpos : pos n.Arcs i s = begins n.Arcs (vtx (n.Arcs.getD i default) s).toNat + cnt n.Arcs (vtx (n.Arcs.getD i default) s).toNat i := rfl
    have e : (vtx (n.Arcs.getD i default) s).toNat = u := by omega
    rw [e] at hcl hpos
    have hb1 : begins n.Arcs (u + 1) = begins n.Arcs u + cnt n.Arcs u n.Arcs.length := rfl
    omega
theorem Row.cap (r : Row n m L c) {j : Nat} (hj : j < L) : 0 ≤ c.Cap.getD j 0 ∧ c.Cap.getD j 0 + c.Cap.getD (rv c j) 0 = cp c j ∧ cp c (rv c j) = cp c j ∧ 0 ≤ cp c j ∧ cp c j ≤ 4611686018427387904 ∧ (bk c j = true → c.Cap.getD j 0 = 0) := by
  obtain ⟨i, s, hi, hne, hp, q1, q2, q3, q4, q5, q6, q7, q8⟩ := r.at hj
  have hc := r.caps i hi
  have h2 : c.Cap.getD (rv c j) 0 = if (!s) then 0 else (n.Arcs.getD i default).cap := by rw [q5]; exact (r.is.ok.hat i hi hne (!s)).2.2.1
  have h3 := (r.rev hj).2.2.1
  unfold cp
  rw [h3, q6, h2, q8]
  cases s
  · simp only [Bool.not_false, if_true, Bool.false_eq_true, if_false, false_implies, and_true]; omega
  · simp only [Bool.not_true, if_true, Bool.false_eq_true, if_false, true_implies, and_true]; omega
/-- the arc's capacity, at both places -/
theorem Row.cpPos (r : Row n m L c) {i : Nat} (hi : i < n.Arcs.length) (hne : (n.Arcs.getD i default).fr ≠ (n.Arcs.getD i default).to) (s : Bool) : cp c (pos n.Arcs i s) = (n.Arcs.getD i default).cap ∧ rv c (pos n.Arcs i s) = pos n.Arcs i (!s) ∧ pos n.Arcs i s < L := by
  have z := r.is.ok.hat i hi hne s
  have z2 := r.is.ok.hat i hi hne (!s)
  have hc := r.caps i hi
  have hr : rv c (pos n.Arcs i s) = pos n.Arcs i (!s) := by unfold rv; rw [z.2.1, Int.toNat_natCast]
  refine ⟨?_, hr, by rw [← r.hL]; exact pos_lt hi hne r.he⟩
  unfold cp
  rw [hr, z.2.2.1, z2.2.2.1]
  cases s <;> simp only [Bool.not_true, Bool.not_false, if_true, Bool.false_eq_true, if_false] <;> omega
theorem Row.tailM (r : Row n m L c) {j : Nat} (hj : j < L) : m_csr_Tail c (j : Nat) = some (((tl c j : Nat) : Int), true) := by
  obtain ⟨i, s, hi, hne, hp, q1, q2, q3, q4, q5, q6, q7, q8⟩ := r.at hj
  have b := r.bd
  have := s_Tail r.is r.he (by omega) (by omega) (s := s) hi hne
  rw [hp] at this
  rw [this, q3]
/-! ### all arcs of a vertex -/
theorem s_arcs {S X : Type} {y : S → Int → Option (S ⊕ X)} {s0 : S} {u : Nat} (r : Row n m L c) (hu : u < m) (I : Nat → S → Prop) (J : X → Prop) (h0 : I (fs c u) s0)
    (hstep : ∀ j s, fs c u ≤ j → j < fs c (u + 1) → I j s → Ok (y s (j : Nat)) (fun t => match t with | .inl s' => I (j + 1) s' | .inr x => J x)) :
    Ok (m_pre_arcs_1 y c (u : Nat) (.inl s0)) (fun t => match t with | .inl s => I (fs c (u + 1)) s | .inr x => J x) := by
  have lf := r.lens.1
  have b := r.bd
  have f1 := (r.first.1 u (by omega)).1
  have f2 := (r.first.1 (u + 1) (by omega)).1
  have f3 := r.first.2.2.2 u hu
  have e1 : ((u : Int) + 1).toNat = u + 1 := by omega
  unfold m_pre_arcs_1
  simp only [Int.toNat_natCast, f1]
  refine Ok.gd.2 ⟨(by (first | omega | (constructor <;> omega) | (simp only [List.length_set, List.length_replicate]; omega) | (simp only [List.length_set, List.length_replicate]; constructor <;> omega))), Ok.bind.2 (Ok.lp (fun s => ∃ (k : Nat) (st : S), s = ((k : Int), Sum.inl st) ∧ fs c u ≤ k ∧ k ≤ fs c (u + 1) ∧ I k st) (fun s => (fs c (u + 1) - s.1).toNat) ⟨fs c u, s0, rfl, Nat.le_refl _, f3.1, h0⟩ (by unfold FUEL; simp only; omega) ?_)⟩
  rintro s ⟨k, st, rfl, hk0, hk, hI⟩ P next exit
  unfold m_pre_arcs_1_s1
  simp only [Int.toNat_natCast, e1, f2]
  refine Ok.gd.2 ⟨(by (first | omega | (constructor <;> omega) | (simp only [List.length_set, List.length_replicate]; omega) | (simp only [List.length_set, List.length_replicate]; constructor <;> omega))), Ok.gd.2 ⟨(by (first | omega | (constructor <;> omega) | (simp only [List.length_set, List.length_replicate]; omega) | (simp only [List.length_set, List.length_replicate]; constructor <;> omega))), Ok.ite.2 ⟨fun hx => ?_, fun hx => Ok.some.2 (exit _ (Ok.some.2 ?_))⟩⟩⟩
  · refine Ok.bind.2 ?_
    show Ok (y st _) _
    refine Ok.mono (hstep k st hk0 (by omega) hI) ?_
    rintro (s' | x) hr
    · exact Ok.ite.2 ⟨fun h => by simp at h, fun _ => Ok.gd.2 ⟨(by (first | omega | (constructor <;> omega) | (simp only [List.length_set, List.length_replicate]; omega) | (simp only [List.length_set, List.length_replicate]; constructor <;> omega))), Ok.some.2 (next _ ⟨k + 1, s', by simp, by omega, by omega, hr⟩ (by simp only; omega))⟩⟩
    · exact Ok.ite.2 ⟨fun _ => Ok.some.2 (exit _ (Ok.some.2 hr)), fun h => by simp at h⟩
  · obtain rfl : k = fs c (u + 1) := by omega
    exact hI
/-! ### what is left, and the excesses -/
/-- the numbers of which so much is left -/
def flN (al : List Arc) (R : List Int) : List Int := (List.range al.length).map fun i => if (al.getD i default).fr = (al.getD i default).to then 0 else R.getD (pos al i true) 0
theorem flN_len (al : List Arc) (R : List Int) : (flN al R).length = al.length := by simp [flN]
theorem flN_getD {al : List Arc} {R : List Int} {i : Nat} (h : i < al.length) : (flN al R).getD i 0 = if (al.getD i default).fr = (al.getD i default).to then 0 else R.getD (pos al i true) 0 := by
  unfold flN
  rw [List.getD_eq_getElem?_getD, List.getElem?_map, List.getElem?_range h]; rfl
structure ResOK (n : Net) (m L : Nat) (c : Csr) (R X : List Int) : Prop where
  lr : R.length = L
  lx : X.length = m
  res : ∀ j, j < L → 0 ≤ R.getD j 0 ∧ R.getD j 0 + R.getD (rv c j) 0 = cp c j
  ex : ∀ v : Nat, v < m → X.getD v 0 = ex n.Arcs (flN n.Arcs R) v n.Arcs.length
theorem res_within {R : List Int} (r : Row n m L c) (h : ∀ j, j < L → 0 ≤ R.getD j 0 ∧ R.getD j 0 + R.getD (rv c j) 0 = cp c j) : FwithinP n (flN n.Arcs R) := by
  refine ⟨r.chk, flN_len _ _, fun i hi => ?_⟩
  rw [flN_getD hi]
  have hc := r.caps i hi
  by_cases e : (n.Arcs.getD i default).fr = (n.Arcs.getD i default).to
  · rw [if_pos e]; omega
  · rw [if_neg e]
    obtain ⟨a1, a2, a3⟩ := r.cpPos hi e true
    have h1 := h _ a3
    have h2 := h _ (r.rev a3).2.1
    omega
theorem ResOK.within {R X : List Int} (h : ResOK n m L c R X) (r : Row n m L c) : FwithinP n (flN n.Arcs R) := res_within r h.res
theorem within_ex {f : List Int} (hw : FwithinP n f) (v : Int) : -4611686018427387904 ≤ ex n.Arcs f v n.Arcs.length ∧ ex n.Arcs f v n.Arcs.length ≤ 4611686018427387904 := by
  have := ex_le (al := n.Arcs) v (fun i hi => (hw.2.2 i hi).1) n.Arcs.length (Nat.le_refl _)
  have := hw.tot n.Arcs.length (Nat.le_refl _)
  omega
theorem ResOK.bnd {R X : List Int} (h : ResOK n m L c R X) (r : Row n m L c) {v : Nat} (hv : v < m) : -4611686018427387904 ≤ X.getD v 0 ∧ X.getD v 0 ≤ 4611686018427387904 := by
  rw [h.ex v hv]; exact within_ex (h.within r) v
theorem ResOK.rle {R X : List Int} (h : ResOK n m L c R X) (r : Row n m L c) {j : Nat} (hj : j < L) : 0 ≤ R.getD j 0 ∧ R.getD j 0 ≤ cp c j ∧ R.getD j 0 ≤ 4611686018427387904 := by
  have h1 := h.res j hj
  have h2 := h.res _ (r.rev hj).2.1
  have h3 := r.cap hj
  omega
/-! ### a push -/
def mvR (c : Csr) (R : List Int) (j : Nat) (d : Int) : List Int := (R.set j (R.getD j 0 - d)).set (rv c j) (R.getD (rv c j) 0 + d)
def mvX (c : Csr) (X : List Int) (j : Nat) (d : Int) : List Int := (X.set (tl c j) (X.getD (tl c j) 0 - d)).set (hd c j) (X.getD (hd c j) 0 + d)
theorem mvR_getD {R : List Int} {j k : Nat} {d : Int} (r : Row n m L c) (hl : R.length = L) (hj : j < L) : (mvR c R j d).getD k 0 = if k = rv c j then R.getD (rv c j) 0 + d else if k = j then R.getD j 0 - d else R.getD k 0 := by
  have := r.rev hj
  unfold mvR
  rw [lset, lset, List.length_set]
  by_cases c1 : k = rv c j
  · rw [if_pos ⟨c1.symm, by omega⟩, if_pos c1]
  · rw [if_neg fun h => c1 h.1.symm, if_neg c1]
    by_cases c2 : k = j
    · rw [if_pos ⟨c2.symm, by omega⟩, if_pos c2]
    · rw [if_neg fun h => c2 h.1.symm, if_neg c2]
theorem mvX_getD {X : List Int} {j k : Nat} {d : Int} (r : Row n m L c) (hl : X.length = m) (hj : j < L) : (mvX c X j d).getD k 0 = X.getD k 0 - (if tl c j = k then d else 0) + (if hd c j = k then d else 0) := by
  have h1 := r.tlh hj
  have h2 := r.head hj
  unfold mvX
  rw [lset, lset, List.length_set]
  by_cases c1 : hd c j = k
  · subst c1
    rw [if_pos ⟨rfl, by omega⟩, if_neg h1.2.2.2, if_pos rfl]; omega
  · rw [if_neg fun h => c1 h.1]
    by_cases c2 : tl c j = k
    · subst c2
      rw [if_pos ⟨rfl, by omega⟩, if_pos rfl, if_neg c1]; omega
    · rw [if_neg fun h => c2 h.1, if_neg c2, if_neg c1]; omega
theorem ex_bump {al : List Arc} {f g : List Int} {i : Nat} {δ : Int} {K : Nat} (v : Int) (hi : i < K) (h : ∀ k, k < K → g.getD k 0 = f.getD k 0 + if k = i then δ else 0) :
    ex al g v K = ex al f v K + ((if (al.getD i default).to = v then δ else 0) - (if (al.getD i default).fr = v then δ else 0)) := by
  have key : ∀ k, k ≤ K → ex al g v k = ex al f v k + if i < k then ((if (al.getD i default).to = v then δ else 0) - (if (al.getD i default).fr = v then δ else 0)) else 0 := by
    intro k
    induction k with
    | zero => intro _; rw [if_neg (by omega)]; rfl
    | succ k ih =>
      intro hk
      simp only [ex]
      rw [ih (by omega), h k (by omega)]
      by_cases e : k = i
      · subst e
        rw [if_neg (show ¬ k < k by omega), if_pos rfl, if_pos (show k < k + 1 by omega)]
        split <;> split <;> omega
      · rw [if_neg e]
        by_cases e2 : i < k
        · rw [if_pos e2, if_pos (show i < k + 1 by omega)]; simp only [Int.add_zero]; omega
        · rw [if_neg e2, if_neg (show ¬ i < k + 1 by omega)]; simp only [Int.add_zero]
  rw [key K (Nat.le_refl _), if_pos hi]
theorem ResOK.move {R X : List Int} {j : Nat} {d : Int} (h : ResOK n m L c R X) (r : Row n m L c) (hj : j < L) (d0 : 0 ≤ d) (d1 : d ≤ R.getD j 0) : ResOK n m L c (mvR c R j d) (mvX c X j d) := by
  have hr := r.rev hj
  have hlr := h.lr
  have hlx := h.lx
  refine ⟨by simp [mvR, hlr], by simp [mvX, hlx], fun k hk => ?_, fun v hv => ?_⟩
  · have hk2 := r.rev hk
    have a := h.res k hk
    have a2 := h.res _ hr.2.1
    have a3 := h.res j hj
    have a4 := r.cap hj
    rw [mvR_getD r hlr hj, mvR_getD r hlr hj]
    by_cases c1 : k = rv c j
    · subst c1
      rw [if_pos rfl, hr.2.2.1, if_neg fun e => hr.2.2.2 e.symm, if_pos rfl, a4.2.2.1]; omega
    · by_cases c2 : k = j
      · subst c2
        rw [if_neg c1, if_pos rfl, if_pos rfl]; omega
      · have c3 : rv c k ≠ rv c j := fun e => c2 (by rw [← hk2.2.2.1, e, hr.2.2.1])
        have c4 : rv c k ≠ j := fun e => c1 (by rw [← e, hk2.2.2.1])
        rw [if_neg c1, if_neg c2, if_neg c3, if_neg c4]; exact a
  · obtain ⟨i, s, hi, hne, hp, q1, q2, q3, q4, q5, q6, q7, q8⟩ := r.at hj
    rw [mvX_getD r hlx hj, h.ex v hv, ex_bump (f := flN n.Arcs R) (g := flN n.Arcs (mvR c R j d)) (i := i) (δ := if s then -d else d) (v : Int) hi fun k hk => ?_]
    · have t1 : (tl c j = v) ↔ vtx (n.Arcs.getD i default) s = (v : Int) := by rw [← q3]; omega
      have t2 : (hd c j = v) ↔ vtx (n.Arcs.getD i default) (!s) = (v : Int) := by rw [← q2]; omega
      simp only [t1, t2]
      cases s <;> simp only [vtx, Bool.not_false, Bool.not_true, if_true, if_false, Bool.false_eq_true] <;> split <;> split <;> omega
    · rw [flN_getD hk, flN_getD hk]
      by_cases e : (n.Arcs.getD k default).fr = (n.Arcs.getD k default).to
      · have : k ≠ i := fun e2 => by subst e2; exact hne e
        rw [if_pos e, if_pos e, if_neg this]; rfl
      · rw [if_neg e, if_neg e, mvR_getD r hlr hj]
        by_cases e2 : k = i
        · subst e2
          cases s
          · have b1 : pos n.Arcs k true = rv c j := by rw [q5]; rfl
            rw [if_pos b1, if_pos rfl, b1]; rfl
          · have b1 : pos n.Arcs k true ≠ rv c j := fun e3 => by rw [q5] at e3; have := (pos_inj r.he hk hk e e e3).2; cases this
            rw [if_neg b1, if_pos hp, if_pos rfl, hp]; rfl
        · have b1 : pos n.Arcs k true ≠ rv c j := fun e3 => by rw [q5] at e3; exact e2 (pos_inj r.he hk hi e hne e3).1
          have b2 : pos n.Arcs k true ≠ j := fun e3 => by rw [← hp] at e3; exact e2 (pos_inj r.he hk hi e hne e3).1
          rw [if_neg b1, if_neg b2, if_neg e2, Int.add_zero]
theorem s_move {p : Pre} {j : Nat} {d : Int} (r : Row n m L c) (h : ResOK n m L c p.Res p.Ex) (hj : j < L) (d0 : 0 ≤ d) (d1 : d ≤ p.Res.getD j 0) : m_pre_move c p (j : Nat) d = some ⟨mvR c p.Res j d, mvX c p.Ex j d, p.H⟩ := by
  refine ok_eq ?_
  obtain ⟨-, lh, lr, -, -, -⟩ := r.lens
  have h1 := r.head hj
  have h2 := r.rev hj
  have h3 := r.tlh hj
  have h4 := r.head h2.2.1
  have hlr := h.lr
  have hlx := h.lx
  have hm := h.move r hj d0 d1
  have b1 := h.bnd r h3.1
  have b2 := hm.bnd r h1.2
  have b3 := h.rle r hj
  have b4 := hm.rle r h2.2.1
  have b5 := h.rle r h2.2.1
  rw [mvX_getD r hlx hj, if_neg h3.2.2.2, if_pos rfl] at b2
  rw [mvR_getD r hlr hj, if_pos rfl] at b4
  have e1 : (p.Res.set j (p.Res.getD j 0 - d)).getD (rv c j) 0 = p.Res.getD (rv c j) 0 := lset_ne fun e => h2.2.2.2 e.symm
  have e2 : (p.Ex.set (tl c j) (p.Ex.getD (tl c j) 0 - d)).getD (hd c j) 0 = p.Ex.getD (hd c j) 0 := lset_ne h3.2.2.2
  have e3 : c.Head.getD (rv c j) 0 = (tl c j : Nat) := h4.1
  unfold m_pre_move
  simp only [Int.toNat_natCast, h1.1, h2.1, e3, e1, e2, List.length_set, hlr, hlx, lh, lr]
  have i1 : inb (j : Int) L := by constructor <;> omega
  have i2 : inb ((rv c j : Nat) : Int) L := by constructor <;> omega
  have i3 : inb ((tl c j : Nat) : Int) m := by constructor <;> omega
  have i4 : inb ((hd c j : Nat) : Int) m := by constructor <;> omega
  have o1 : i64ok (p.Res.getD j 0 - d) := by constructor <;> omega
  have o2 : i64ok (p.Res.getD (rv c j) 0 + d) := by constructor <;> omega
  have o3 : i64ok (p.Ex.getD (tl c j) 0 - d) := by constructor <;> omega
  have o4 : i64ok (p.Ex.getD (hd c j) 0 + d) := by constructor <;> omega
  refine Ok.gd.2 ⟨i1, Ok.gd.2 ⟨i2, Ok.gd.2 ⟨i1, Ok.gd.2 ⟨o1, Ok.gd.2 ⟨i1, Ok.gd.2 ⟨i1, Ok.gd.2 ⟨i2, Ok.gd.2 ⟨o2, Ok.gd.2 ⟨i2, Ok.gd.2 ⟨i3, Ok.gd.2 ⟨o3, Ok.gd.2 ⟨i3, Ok.gd.2 ⟨i1, Ok.gd.2 ⟨i4, Ok.gd.2 ⟨o4, Ok.gd.2 ⟨i4, Ok.some.2 rfl⟩⟩⟩⟩⟩⟩⟩⟩⟩⟩⟩⟩⟩⟩⟩⟩
theorem s_Clone64 {xs : List Int} (h : xs.length ≤ 1000000000) : m_slices_Clone_int64 xs = some xs := by
  refine ok_eq ?_
  unfold m_slices_Clone_int64
  exact Ok.gd.2 ⟨by constructor <;> omega, Ok.some.2 rfl⟩
theorem s_CloneI {xs : List Int} (h : xs.length ≤ 1000000000) : m_slices_Clone_int xs = some xs := by
  refine ok_eq ?_
  unfold m_slices_Clone_int
  exact Ok.gd.2 ⟨by constructor <;> omega, Ok.some.2 rfl⟩
end row
end Go.Acq
namespace Go.Acq
open Go
set_option linter.unusedSimpArgs false
section row
variable {n : Net} {m L : Nat} {c : Csr}
/-! ### the excesses that what is left says -/
/-! ### two rows of numbers -/
/-! ### heights -/
def HeightsP (n : Net) (m : Nat) (h : List Int) : Prop := h.length = m ∧ (∀ s : Nat, n.S = s → h.getD s 0 = m) ∧ (∀ t : Nat, n.T = t → h.getD t 0 = 0) ∧ ∀ v, v < m → 0 ≤ h.getD v 0 ∧ h.getD v 0 < 2 * m
/-! ### which states are right -/
structure PreOK (n : Net) (m L : Nat) (c : Csr) (p : Pre) : Prop where
  ok : ResOK n m L c p.Res p.Ex
  nn : ∀ v, v < m → (v : Int) ≠ n.S → 0 ≤ p.Ex.getD v 0
  hs : HeightsP n m p.H
  val : ∀ j, j < L → 0 < p.Res.getD j 0 → p.H.getD (tl c j) 0 ≤ p.H.getD (hd c j) 0 + 1
structure PreLen (p : Pre) : Prop where
  r : lenok p.Res.length
  x : lenok p.Ex.length
  h : lenok p.H.length
theorem PreOK.len {p : Pre} (h : PreOK n m L c p) (r : Row n m L c) : PreLen p := by
  have := r.bd
  have h1 := h.ok.lr
  have h2 := h.ok.lx
  have h3 := h.hs.1
  exact ⟨by omega, by omega, by omega⟩
end row
end Go.Acq
namespace Go.Acq
open Go
set_option linter.unusedSimpArgs false
def ActP (n : Net) (X : List Int) (u : Nat) : Prop := (u : Int) ≠ n.S ∧ (u : Int) ≠ n.T ∧ 0 < X.getD u 0
instance (n : Net) (X : List Int) (u : Nat) : Decidable (ActP n X u) := by unfold ActP; infer_instance
def AdmP (c : Csr) (p : Pre) (u j : Nat) : Prop := 0 < p.Res.getD j 0 ∧ p.H.getD u 0 = p.H.getD (hd c j) 0 + 1
instance (c : Csr) (p : Pre) (u j : Nat) : Decidable (AdmP c p u j) := by unfold AdmP; infer_instance
def StuckP (n : Net) (c : Csr) (p : Pre) (u : Nat) : Prop := ActP n p.Ex u ∧ ∀ j, fs c u ≤ j → j < fs c (u + 1) → ¬AdmP c p u j
instance (n : Net) (c : Csr) (p : Pre) (u : Nat) : Decidable (StuckP n c p u) :=
  if h : ActP n p.Ex u ∧ ∀ j, j < fs c (u + 1) → fs c u ≤ j → ¬AdmP c p u j then .isTrue ⟨h.1, fun j a b => h.2 j b a⟩ else .isFalse fun g => h ⟨g.1, fun j a b => g.2 j b a⟩
/-- those of which something is so -/
def selN (p : Nat → Bool) : Nat → List Int
  | 0 => []
  | k + 1 => selN p k ++ (if p k = true then [(k : Int)] else [])
theorem selN_len (p : Nat → Bool) : ∀ k, (selN p k).length ≤ k
  | 0 => Nat.le_refl _
  | k + 1 => by
    have := selN_len p k
    simp only [selN, List.length_append]
    split <;> simp <;> omega
theorem mem_selN {p : Nat → Bool} {a : Int} : ∀ {k : Nat}, a ∈ selN p k ↔ ∃ i : Nat, i < k ∧ p i = true ∧ a = i
  | 0 => by simp [selN]
  | k + 1 => by
    simp only [selN, List.mem_append, mem_selN (k := k)]
    constructor
    · rintro (⟨i, h1, h2, h3⟩ | h)
      · exact ⟨i, by omega, h2, h3⟩
      · by_cases c : p k = true
        · rw [if_pos c] at h; exact ⟨k, by omega, c, List.mem_singleton.1 h⟩
        · rw [if_neg c] at h; cases h
    · rintro ⟨i, h1, h2, h3⟩
      rcases Nat.lt_or_ge i k with h | h
      · exact .inl ⟨i, h, h2, h3⟩
      · have : i = k := by omega
        subst this
        right; rw [if_pos h2]; exact List.mem_singleton.2 h3
section row
variable {n : Net} {m L : Nat} {c : Csr}
theorem s_active {p : Pre} {u : Nat} (r : Row n m L c) (lx : p.Ex.length = m) (hu : u < m) : m_pre_active c p (u : Nat) = some (decide (ActP n p.Ex u)) := by
  have h2 := r.is.hS
  have h3 := r.is.hT
  unfold m_pre_active ActP
  rw [h2, h3]
  by_cases a : (u : Int) ≠ n.S
  · by_cases b : (u : Int) ≠ n.T
    · rw [if_pos a, if_pos b, gd_pos (by constructor <;> omega), Int.toNat_natCast]; simp [a, b]
    · rw [if_pos a, if_neg b]; simp [b]
  · rw [if_neg a]; simp [a]
/-- the heights are such that one more than each is a number -/
def HtB (m : Nat) (h : List Int) : Prop := h.length = m ∧ ∀ v, v < m → -1000000 ≤ h.getD v 0 ∧ h.getD v 0 ≤ 1000000
theorem HeightsP.hb {h : List Int} (r : Row n m L c) (hh : HeightsP n m h) : HtB m h := ⟨hh.1, fun v hv => by have := hh.2.2.2 v hv; have := r.bd; omega⟩
theorem s_admissible {p : Pre} {u j : Nat} (r : Row n m L c) (lr : p.Res.length = L) (hb : HtB m p.H) (hu : u < m) (hj : j < L) : m_pre_admissible c p (u : Nat) (j : Nat) = some (decide (AdmP c p u j)) := by
  have g1 := r.head hj
  have g2 := hb.2 _ g1.2
  have := hb.1
  have := r.lens.2.1
  unfold m_pre_admissible AdmP
  simp only [Int.toNat_natCast, g1.1]
  rw [gd_pos (by constructor <;> omega)]
  by_cases h : 0 < p.Res.getD j 0
  · rw [if_pos h, gd_pos (by constructor <;> omega), gd_pos (by constructor <;> omega), gd_pos (by constructor <;> omega), gd_pos (by constructor <;> omega)]
    exact congrArg some (decide_eq_decide.2 ⟨fun e => ⟨h, e⟩, fun e => e.2⟩)
  · rw [if_neg h]
    exact congrArg some (decide_eq_false fun e => h e.1).symm
theorem s_stuck {p : Pre} {u : Nat} (r : Row n m L c) (lr : p.Res.length = L) (lx : p.Ex.length = m) (hb : HtB m p.H) (hu : u < m) : Ok (m_pre_stuck c p (u : Nat)) (fun b => b = decide (StuckP n c p u)) := by
  have hfl := r.first.2.2.2 u hu
  unfold m_pre_stuck m_pre_arcs
  refine Ok.bind.2 (Ok.some.2 (Ok.bind.2 (Ok.mono (s_arcs r hu (fun j _ => ∀ i, fs c u ≤ i → i < j → ¬AdmP c p u i) (fun _ => ∃ j, fs c u ≤ j ∧ j < fs c (u + 1) ∧ AdmP c p u j) (fun i h1 h2 => by omega) fun j s h1 h2 h3 => ?_) ?_)))
  · unfold m_pre_stuck_y1
    refine Ok.bind.2 (ok_of (s_admissible r lr hb hu (by omega)) (Ok.ite.2 ⟨fun h => Ok.some.2 ⟨j, h1, h2, of_decide_eq_true h⟩, fun h => Ok.some.2 fun i h4 h5 => ?_⟩))
    rcases Nat.lt_or_ge i j with h6 | h6
    · exact h3 i h4 h6
    · rw [show i = j by omega]; exact fun h7 => h (decide_eq_true h7)
  · rintro (s | x) h
    · refine Ok.bind.2 (ok_of (s_active r lx hu) (Ok.some.2 ?_))
      rw [Bool.eq_iff_iff, decide_eq_true_iff, decide_eq_true_iff]
      exact ⟨fun h1 => ⟨h1, h⟩, fun h1 => h1.1⟩
    · obtain ⟨j, h1, h2, h3⟩ := h
      exact Ok.some.2 (decide_eq_false fun h4 => h4.2 j h1 h2 h3).symm
theorem s_all {p : Nat → Bool} {step : List Int → Int → Option ((List Int × Int) ⊕ List Int)} (hm : m ≤ 4096)
    (hs : ∀ (o : List Int) (k : Nat), k ≤ m → o.length ≤ k → step o k = if k < m then (if p k = true then some (.inl (o ++ [(k : Int)], (k : Int) + 1)) else some (.inl (o, (k : Int) + 1))) else some (.inr o)) : Ok (loopM (fun s => step s.1 s.2) FUEL ([], 0)) (fun o => o = selN p m) := by
  refine Ok.lp (fun s => ∃ k : Nat, s.2 = k ∧ k ≤ m ∧ s.1 = selN p k) (fun s => (m - s.2).toNat) ⟨0, rfl, by omega, rfl⟩ (by unfold FUEL; simp only; omega) ?_
  rintro ⟨o, x⟩ ⟨k, h1, hk, ho⟩ P next exit
  simp only at h1 ho next ⊢
  subst h1; subst ho
  rw [hs _ k hk (selN_len p k)]
  refine Ok.ite.2 ⟨fun hx => Ok.ite.2 ⟨fun h => Ok.some.2 (next _ ⟨k + 1, by simp, by omega, by simp only [selN]; rw [if_pos h]⟩ (by simp only; omega)), fun h => Ok.some.2 (next _ ⟨k + 1, by simp, by omega, by simp only [selN]; rw [if_neg h, List.append_nil]⟩ (by simp only; omega))⟩, fun hx => Ok.some.2 (exit _ (by rw [show k = m by omega]))⟩
theorem s_May {p : Pre} (r : Row n m L c) (lr : p.Res.length = L) (lx : p.Ex.length = m) (hb : HtB m p.H) : m_pre_May c p = some (selN (fun j => decide (ActP n p.Ex (tl c j) ∧ AdmP c p (tl c j) j)) L, selN (fun u => decide (StuckP n c p u)) m) := by
  have b := r.bd
  have hN := r.is.hN
  refine ok_eq ?_
  unfold m_pre_May
  refine Ok.bind.2 (Ok.lp (fun s => ∃ k : Nat, s.2 = k ∧ k ≤ m ∧ s.1 = selN (fun j => decide (ActP n p.Ex (tl c j) ∧ AdmP c p (tl c j) j)) (fs c k)) (fun s => (m - s.2).toNat) ⟨0, rfl, by omega, by rw [r.first.2.1]; rfl⟩ (by unfold FUEL; simp only; omega) ?_)
  rintro ⟨o, x⟩ ⟨k, h1, hk, ho⟩ P next exit
  simp only at h1 ho next ⊢
  subst h1
  unfold m_pre_May_s1
  rw [hN]
  refine Ok.ite.2 ⟨fun hx => ?_, fun hx => Ok.some.2 (exit _ ?_)⟩
  · have hkm : k < m := by omega
    have hfl := r.first.2.2.2 k hkm
    unfold m_pre_arcs
    refine Ok.bind.2 (Ok.some.2 (Ok.bind.2 (Ok.mono (s_arcs r hkm (fun j s => s = selN (fun j => decide (ActP n p.Ex (tl c j) ∧ AdmP c p (tl c j) j)) j) (fun _ => False) ho fun j s g1 g2 g3 => ?_) ?_)))
    · have hjL : j < L := by omega
      have ht := (r.range hjL hkm).1 ⟨g1, g2⟩
      subst g3
      have hle := selN_len (fun j => decide (ActP n p.Ex (tl c j) ∧ AdmP c p (tl c j) j)) j
      have j3 : ∀ (b : Bool) (P : List Int ⊕ Empty → Prop), (P (.inl (selN (fun j => decide (ActP n p.Ex (tl c j) ∧ AdmP c p (tl c j) j)) (j + 1)))) → (b = true ↔ (ActP n p.Ex k ∧ AdmP c p k j)) → Ok (m_pre_May_j3 (selN (fun j => decide (ActP n p.Ex (tl c j) ∧ AdmP c p (tl c j) j)) j) (j : Nat) b) P := by
        intro b P hP hb
        unfold m_pre_May_j3
        have e : decide (ActP n p.Ex (tl c j) ∧ AdmP c p (tl c j) j) = b := by rw [ht, Bool.eq_iff_iff, decide_eq_true_iff]; exact hb.symm
        refine Ok.ite.2 ⟨fun h => Ok.gd.2 ⟨?_, Ok.some.2 ?_⟩, fun h => Ok.some.2 ?_⟩
        · rw [List.length_append, List.length_singleton]; constructor <;> omega
        · simp only [selN] at hP; rw [if_pos (e.trans h)] at hP; exact hP
        · simp only [selN] at hP; rw [if_neg (by rw [e]; exact h), List.append_nil] at hP; exact hP
      unfold m_pre_May_y2
      refine Ok.bind.2 (ok_of (s_active r lx hkm) (Ok.ite.2 ⟨fun h => Ok.bind.2 (ok_of (s_admissible r lr hb hkm hjL) (j3 _ _ rfl ?_)), fun h => j3 false _ rfl ⟨fun h2 => (by cases h2), fun h2 => absurd (decide_eq_true h2.1) h⟩⟩))
      rw [decide_eq_true_iff]
      exact ⟨fun h2 => ⟨of_decide_eq_true h, h2⟩, fun h2 => h2.2⟩
    · rintro (s | x) h
      · exact Ok.gd.2 ⟨(by (first | omega | (constructor <;> omega) | (simp only [List.length_set, List.length_replicate]; omega) | (simp only [List.length_set, List.length_replicate]; constructor <;> omega))), Ok.some.2 (next _ ⟨k + 1, by simp, by omega, h⟩ (by simp only; omega))⟩
      · exact h.elim
  · obtain rfl : k = m := by omega
    unfold m_pre_May_j4 m_pre_all_May_1
    refine Ok.bind.2 (Ok.bind.2 (Ok.mono (s_all (m := k) (p := fun u => decide (StuckP n c p u)) (step := fun o x => m_pre_all_May_1_s1 c c p o x) (by omega) fun o q hq hol => ?_) fun o2 ho2 => ?_))
    · unfold m_pre_all_May_1_s1 m_pre_May_1
      rw [hN]
      by_cases h : q < k
      · obtain ⟨b, hb1, hb2⟩ := s_stuck r lr lx hb h
        rw [if_pos (by omega), if_pos h, hb1]
        simp only [Option.bind_some]
        rw [hb2]
        by_cases h2 : decide (StuckP n c p q) = true
        · rw [if_pos h2, if_pos h2, gd_pos (by rw [List.length_append, List.length_singleton]; constructor <;> omega), gd_pos (by constructor <;> omega)]
        · rw [if_neg h2, if_neg h2, gd_pos (by constructor <;> omega)]
      · rw [if_neg (by omega), if_neg h]
    · unfold m_pre_all_May_1_j2
      refine Ok.some.2 (Ok.some.2 ?_)
      rw [ho, r.first.2.2.1, ho2]
/-! ### a push -/
def pushD (c : Csr) (p : Pre) (j : Nat) : Int := min (p.Ex.getD (tl c j) 0) (p.Res.getD j 0)
def pushP (c : Csr) (p : Pre) (j : Nat) : Pre := ⟨mvR c p.Res j (pushD c p j), mvX c p.Ex j (pushD c p j), p.H⟩
theorem s_Copy {p : Pre} (h1 : p.Res.length ≤ 1000000000) (h2 : p.Ex.length ≤ 1000000000) (h3 : p.H.length ≤ 1000000000) : m_pre_Copy p = some p := by
  unfold m_pre_Copy
  rw [s_Clone64 h1, s_Clone64 h2, s_CloneI h3]; rfl
theorem s_Push {p : Pre} {j : Nat} (r : Row n m L c) (h : ResOK n m L c p.Res p.Ex) (hb : HtB m p.H) (hj : j < L) :
    m_pre_Push c p (j : Nat) = some (if ActP n p.Ex (tl c j) ∧ AdmP c p (tl c j) j then (pushP c p j, pushD c p j, 0) else (⟨[], [], []⟩, 0, 30)) := by
  have b := r.bd
  have lr := h.lr
  have lx := h.lx
  have lh := hb.1
  have ht := (r.tlh hj).1
  unfold m_pre_Push
  rw [r.tailM hj]
  simp only [Option.bind_some]
  rw [if_neg (by simp), s_active r lx ht]
  simp only [Option.bind_some]
  have j1 : ActP n p.Ex (tl c j) ∧ AdmP c p (tl c j) j → m_pre_Push_j1 c p (j : Nat) (tl c j : Nat) false = some (pushP c p j, pushD c p j, 0) := fun hA => by
    unfold m_pre_Push_j1
    rw [if_neg (by simp), s_Copy (by omega) (by omega) (by omega)]
    simp only [Option.bind_some, Int.toNat_natCast]
    have h1 := hA.1.2.2
    have h2 := hA.2.1
    rw [gd_pos (by constructor <;> omega), gd_pos (by constructor <;> omega), s_move r h hj (by omega) (by omega)]
    rfl
  by_cases hA : ActP n p.Ex (tl c j)
  · rw [if_neg (by simp [hA]), s_admissible r lr hb ht hj]
    simp only [Option.bind_some]
    by_cases hB : AdmP c p (tl c j) j
    · rw [if_pos ⟨hA, hB⟩, decide_eq_true hB]; exact j1 ⟨hA, hB⟩
    · rw [if_neg fun h => hB h.2, decide_eq_false hB]
      unfold m_pre_Push_j1; rw [if_pos (by decide)]
  · rw [if_pos (by simp [hA]), if_neg fun h => hA h.1]
    unfold m_pre_Push_j1; rw [if_pos rfl]
/-- a push keeps a state right -/
theorem PreOK.push {p : Pre} {j : Nat} (h : PreOK n m L c p) (r : Row n m L c) (hj : j < L) (hA : ActP n p.Ex (tl c j)) (hB : AdmP c p (tl c j) j) : PreOK n m L c (pushP c p j) := by
  have h1 := hA.2.2
  have h2 := hB.1
  have hD : pushD c p j = min (p.Ex.getD (tl c j) 0) (p.Res.getD j 0) := rfl
  have hlr := h.ok.lr
  have hlx := h.ok.lx
  have ht := r.tlh hj
  have hr := r.rev hj
  refine ⟨h.ok.move r hj (by omega) (by omega), fun v hv hvS => ?_, h.hs, fun k hk h0 => ?_⟩
  · have := h.nn v hv hvS
    simp only [pushP]
    rw [mvX_getD r hlx hj]
    by_cases c1 : tl c j = v
    · subst c1
      rw [if_pos rfl, if_neg fun e => ht.2.2.2 e.symm]; omega
    · rw [if_neg c1]; split <;> omega
  · simp only [pushP] at h0 ⊢
    rw [mvR_getD r hlr hj] at h0
    by_cases c1 : k = rv c j
    · subst c1
      rw [ht.2.1, ht.2.2.1]
      have := hB.2
      omega
    · rw [if_neg c1] at h0
      by_cases c2 : k = j
      · subst c2; exact h.val k hk h2
      · rw [if_neg c2] at h0; exact h.val k hk h0
/-! ### a lift -/
/-- the least height over the first k arcs from a place on -/
def lowN (c : Csr) (p : Pre) (m : Nat) (a : Nat) : Nat → Int
  | 0 => 2 * m
  | k + 1 => if 0 < p.Res.getD (a + k) 0 then min (lowN c p m a k) (p.H.getD (hd c (a + k)) 0) else lowN c p m a k
def lowV (c : Csr) (p : Pre) (m u : Nat) : Int := lowN c p m (fs c u) (fs c (u + 1) - fs c u)
def liftP (c : Csr) (p : Pre) (m u : Nat) : Pre := ⟨p.Res, p.Ex, p.H.set u (lowV c p m u + 1)⟩
theorem lowN_le {p : Pre} {a : Nat} : ∀ {k i : Nat}, i < k → 0 < p.Res.getD (a + i) 0 → lowN c p m a k ≤ p.H.getD (hd c (a + i)) 0
  | 0, _, h, _ => by omega
  | k + 1, i, h, h0 => by
    simp only [lowN]
    rcases Nat.lt_or_ge i k with h1 | h1
    · have := lowN_le h1 h0
      split <;> omega
    · have : i = k := by omega
      subst this
      rw [if_pos h0]; omega
theorem lowN_at (p : Pre) (a : Nat) : ∀ k : Nat, lowN c p m a k ≤ 2 * m ∧ (lowN c p m a k = 2 * m ∨ ∃ i, i < k ∧ 0 < p.Res.getD (a + i) 0 ∧ p.H.getD (hd c (a + i)) 0 = lowN c p m a k)
  | 0 => ⟨Int.le_refl _, .inl rfl⟩
  | k + 1 => by
    obtain ⟨h1, h2⟩ := lowN_at p a k
    simp only [lowN]
    by_cases h : 0 < p.Res.getD (a + k) 0
    · rw [if_pos h]
      refine ⟨by omega, ?_⟩
      by_cases h3 : p.H.getD (hd c (a + k)) 0 ≤ lowN c p m a k
      · exact .inr ⟨k, by omega, h, by omega⟩
      · rcases h2 with h2 | ⟨i, g1, g2, g3⟩
        · exact .inl (by omega)
        · exact .inr ⟨i, by omega, g2, by omega⟩
    · rw [if_neg h]
      refine ⟨h1, ?_⟩
      rcases h2 with h2 | ⟨i, g1, g2, g3⟩
      · exact .inl h2
      · exact .inr ⟨i, by omega, g2, g3⟩
theorem lowV_le {p : Pre} {u j : Nat} (r : Row n m L c) (hu : u < m) (hj : j < L) (ht : tl c j = u) (h0 : 0 < p.Res.getD j 0) : lowV c p m u ≤ p.H.getD (hd c j) 0 := by
  have h1 := (r.range hj hu).2 ht
  have e : fs c u + (j - fs c u) = j := by omega
  have := lowN_le (c := c) (m := m) (p := p) (a := fs c u) (k := fs c (u + 1) - fs c u) (i := j - fs c u) (by omega) (by rw [e]; exact h0)
  rw [e] at this; exact this
theorem lowV_at (p : Pre) {u : Nat} (r : Row n m L c) (hu : u < m) : lowV c p m u ≤ 2 * m ∧ (lowV c p m u = 2 * m ∨ ∃ j, j < L ∧ tl c j = u ∧ 0 < p.Res.getD j 0 ∧ p.H.getD (hd c j) 0 = lowV c p m u) := by
  have hfl := r.first.2.2.2 u hu
  obtain ⟨h1, h2⟩ := lowN_at (c := c) (m := m) p (fs c u) (fs c (u + 1) - fs c u)
  refine ⟨h1, ?_⟩
  rcases h2 with h2 | ⟨i, g1, g2, g3⟩
  · exact .inl h2
  · exact .inr ⟨fs c u + i, by omega, (r.range (by omega) hu).1 ⟨by omega, by omega⟩, g2, g3⟩
theorem s_Lift {p : Pre} {u : Nat} (r : Row n m L c) (lr : p.Res.length = L) (lx : p.Ex.length = m) (hb : HtB m p.H) (hu : u < m) :
    m_pre_Lift c p (u : Nat) = some (if StuckP n c p u then (liftP c p m u, 0) else (⟨[], [], []⟩, 30)) := by
  have b := r.bd
  have hN := r.is.hN
  have lh := hb.1
  have llh := r.lens.2.1
  have hfl := r.first.2.2.2 u hu
  refine ok_eq ?_
  unfold m_pre_Lift
  rw [if_neg (by omega), hN]
  unfold m_pre_Lift_j1
  rw [if_neg (by simp; omega), hN]
  refine Ok.bind.2 (Ok.mono (s_stuck r lr lx hb hu) ?_)
  rintro q rfl
  by_cases hS : StuckP n c p u
  · rw [if_neg (by simp [hS]), if_pos hS]
    unfold m_pre_arcs
    refine Ok.gd.2 ⟨by constructor <;> omega, Ok.bind.2 (Ok.some.2 (Ok.bind.2 (Ok.mono (s_arcs r hu (fun j s => s = lowN c p m (fs c u) (j - fs c u)) (fun _ => False) (by rw [Nat.sub_self]; rfl) fun j s h1 h2 h3 => ?_) ?_)))⟩
    · have hjL : j < L := by omega
      have g1 := r.head hjL
      have e1 : j + 1 - fs c u = (j - fs c u) + 1 := by omega
      have e2 : fs c u + (j - fs c u) = j := by omega
      subst h3
      unfold m_pre_Lift_y2
      simp only [Int.toNat_natCast, g1.1]
      refine Ok.gd.2 ⟨by constructor <;> omega, Ok.ite.2 ⟨fun h0 => Ok.gd.2 ⟨by constructor <;> omega, Ok.gd.2 ⟨by constructor <;> omega, Ok.some.2 ?_⟩⟩, fun h0 => Ok.some.2 ?_⟩⟩
      · rw [e1]; simp only [lowN, e2]; rw [if_pos h0]
      · rw [e1]; simp only [lowN, e2]; rw [if_neg h0]
    · rintro (s | x) h
      · simp only at h
        subst h
        have hv := (lowV_at p r hu).1
        have hlow : -1000000 ≤ lowV c p m u := by
          rcases (lowV_at p r hu).2 with h | ⟨j, h1, -, -, h4⟩
          · omega
          · have := hb.2 _ (r.head h1).2; omega
        unfold lowV at hv hlow
        refine Ok.bind.2 (ok_of (s_Copy (by omega) (by omega) (by omega)) (Ok.gd.2 ⟨by constructor <;> omega, Ok.gd.2 ⟨by constructor <;> omega, Ok.some.2 ?_⟩⟩))
        rw [Int.toNat_natCast]; rfl
      · exact h.elim
  · rw [if_pos (by simp [hS]), if_neg hS]; exact Ok.some.2 rfl
/-! ### ways by what is left -/
def OpenJ (c : Csr) (L : Nat) (R : List Int) (u v : Nat) : Prop := ∃ j, j < L ∧ tl c j = u ∧ hd c j = v ∧ 0 < R.getD j 0
theorem OpenJ.lt {R : List Int} (r : Row n m L c) {u v : Nat} (h : OpenJ c L R u v) : u < m ∧ v < m := by
  obtain ⟨j, h1, h2, h3, _⟩ := h
  exact ⟨by rw [← h2]; exact (r.tlh h1).1, by rw [← h3]; exact (r.head h1).2⟩
/-- by as many heights as there are between both ends -/
theorem height_path {H : Nat → Int} {G : Nat → Nat → Prop} (hG : ∀ u v, G u v → H u ≤ H v + 1) {u v : Nat} (hr : Reach G u v) : ∀ k : Int, H v ≤ k → k ≤ H u → ∃ w, Reach G u w ∧ H w = k := by
  induction hr with
  | refl => intro k h1 h2; exact ⟨u, .refl, by omega⟩
  | step h1 h2 ih =>
    rename_i x y
    intro k h3 h4
    by_cases c : H x ≤ k
    · exact ih k c h4
    · have := hG _ _ h2
      exact ⟨y, .step h1 h2, by omega⟩
theorem pigeon : ∀ (m : Nat) (f : Nat → Nat), (∀ k, k ≤ m → f k < m) → ∃ i j, i < j ∧ j ≤ m ∧ f i = f j
  | 0, f, h => absurd (h 0 (Nat.le_refl _)) (by omega)
  | m + 1, f, h => by
    by_cases e : ∃ i, i ≤ m ∧ f i = f (m + 1)
    · obtain ⟨i, h1, h2⟩ := e
      exact ⟨i, m + 1, by omega, by omega, h2⟩
    · have ne : ∀ i, i ≤ m → f i ≠ f (m + 1) := fun i hi h2 => e ⟨i, hi, h2⟩
      obtain ⟨i, j, h1, h2, h3⟩ := pigeon m (fun k => if f (m + 1) < f k then f k - 1 else f k) fun k hk => by
        have a := h k (by omega)
        have a2 := h (m + 1) (by omega)
        have a3 := ne k hk
        split <;> omega
      have a1 := ne i (by omega)
      have a2 := ne j (by omega)
      refine ⟨i, j, h1, by omega, ?_⟩
      split at h3 <;> split at h3 <;> omega
/-- there are not more heights than vertices -/
theorem no_heights {H : Nat → Int} {a : Int} (h : ∀ k : Nat, k ≤ m → ∃ w, w < m ∧ H w = a + k) : False := by
  have : ∀ k : Nat, ∃ w, k ≤ m → w < m ∧ H w = a + k := fun k => by
    by_cases c : k ≤ m
    · obtain ⟨w, hw⟩ := h k c; exact ⟨w, fun _ => hw⟩
    · exact ⟨0, fun h => absurd h c⟩
  obtain ⟨f, hf⟩ := Classical.axiomOfChoice this
  obtain ⟨i, j, h1, h2, h3⟩ := pigeon m f fun k hk => (hf k hk).1
  have a1 := (hf i (by omega)).2
  have a2 := (hf j h2).2
  rw [h3] at a1
  omega
theorem reach_lt {R : List Int} (r : Row n m L c) {u v : Nat} (hu : u < m) (h : Reach (OpenJ c L R) u v) : v < m := by
  induction h with
  | refl => exact hu
  | step _ h2 _ => exact (h2.lt r).2
/-- whoever has excess reaches S -/
theorem active_reaches {R X : List Int} {S u : Nat} (r : Row n m L c) (h : ResOK n m L c R X) (hS : n.S = S) (nn : ∀ v, v < m → v ≠ S → 0 ≤ X.getD v 0) (hu : u < m) (hx : 0 < X.getD u 0) : Reach (OpenJ c L R) u S := by
  refine Classical.byContradiction fun hno => ?_
  let q : Nat → Bool := fun v => @decide (¬Reach (OpenJ c L R) u v) (Classical.propDecidable _)
  have hq : ∀ v, q v = true ↔ ¬Reach (OpenJ c L R) u v := fun v => @decide_eq_true_iff _ (Classical.propDecidable _)
  obtain ⟨cl, hcl⟩ : ∃ cl : List Bool, cl = (List.range m).map q := ⟨_, rfl⟩
  have inc : ∀ v : Nat, v < m → (inS cl v = true ↔ ¬Reach (OpenJ c L R) u v) := fun v hv => by
    unfold inS
    rw [hcl, Int.toNat_natCast, List.getD_eq_getElem?_getD, List.getElem?_map, List.getElem?_range hv]
    exact hq v
  have inf : ∀ v : Nat, v < m → (inS cl v = false ↔ Reach (OpenJ c L R) u v) := fun v hv => by
    rw [Bool.eq_false_iff, ne_eq, inc v hv]; exact Classical.not_not
  have he := r.he
  have hw := h.within r
  -- nothing flows in
  have hac : ∀ k, k ≤ n.Arcs.length → acK n.Arcs (flN n.Arcs R) cl k ≤ 0 := by
    intro k
    induction k with
    | zero => intro _; simp [acK]
    | succ k ih =>
      intro hk
      have h0 := he k hk false
      have h1 := he k hk true
      simp only [vtx, Bool.false_eq_true, if_false, if_true] at h0 h1
      have hf := (hw.2.2 k hk).1
      have ih := ih (by omega)
      simp only [acK]
      by_cases c1 : inS cl (n.Arcs.getD k default).fr = true ∧ inS cl (n.Arcs.getD k default).to = false
      · have hz : (flN n.Arcs R).getD k 0 = 0 := by
          rw [flN_getD hk]
          by_cases e : (n.Arcs.getD k default).fr = (n.Arcs.getD k default).to
          · rw [if_pos e]
          · rw [if_neg e]
            obtain ⟨-, a2, a3⟩ := r.cpPos hk e true
            have z := r.is.ok.hat k hk e true
            have z2 := r.is.ok.hat k hk e false
            have nnR := (h.res _ a3).1
            refine Int.le_antisymm (Int.not_lt.1 fun hpos => ?_) nnR
            obtain ⟨p, hp⟩ : ∃ p : Nat, (n.Arcs.getD k default).fr = p := ⟨(n.Arcs.getD k default).fr.toNat, by omega⟩
            obtain ⟨t, ht⟩ : ∃ t : Nat, (n.Arcs.getD k default).to = t := ⟨(n.Arcs.getD k default).to.toNat, by omega⟩
            rw [hp, ht] at c1
            have r1 := (inf t (by omega)).1 c1.2
            refine (inc p (by omega)).1 c1.1 (.step r1 ⟨_, a3, ?_, ?_, hpos⟩)
            · unfold tl hd; rw [a2]; simp only [Bool.not_true]; rw [z2.1]; simp only [vtx, Bool.not_false, if_true, ht]; omega
            · unfold hd; rw [z.1]; simp only [vtx, Bool.not_true, Bool.false_eq_true, if_false, hp]; omega
        rw [if_pos c1, hz]; split <;> omega
      · rw [if_neg c1]; split <;> omega
  have hpc : ∀ j, j ≤ m → 0 ≤ partC n.Arcs (flN n.Arcs R) cl j n.Arcs.length ∧ (u < j → 0 < partC n.Arcs (flN n.Arcs R) cl j n.Arcs.length) := by
    intro j
    induction j with
    | zero => intro _; rw [show ((0 : Nat) : Int) = 0 from rfl, partC_none he _ (Nat.le_refl _)]; exact ⟨Int.le_refl _, fun h => by omega⟩
    | succ j ih =>
      intro hj
      obtain ⟨i1, i2⟩ := ih (by omega)
      rw [Int.natCast_succ, partC_succ]
      by_cases c1 : inS cl j = false
      · rw [if_pos c1, ← h.ex j (by omega)]
        have hjS : j ≠ S := fun e => hno (by rw [← e]; exact (inf j (by omega)).1 c1)
        have := nn j (by omega) hjS
        refine ⟨by omega, fun hlt => ?_⟩
        by_cases e : u = j
        · subst e; omega
        · have := i2 (by omega); omega
      · rw [if_neg c1]
        refine ⟨by omega, fun hlt => ?_⟩
        by_cases e : u = j
        · subst e; exact absurd ((inf u hu).2 .refl) c1
        · have := i2 (by omega); omega
  have := (hpc m (Nat.le_refl _)).2 hu
  rw [partC_all he _ (Nat.le_refl _)] at this
  have := hac _ (Nat.le_refl _)
  omega
/-- heights upon the way to S: below 2N -/
theorem height_bound {R : List Int} {H : Nat → Int} {S u : Nat} (r : Row n m L c) (hu : u < m) (hval : ∀ j, j < L → 0 < R.getD j 0 → H (tl c j) ≤ H (hd c j) + 1) (hHS : H S = m) (hr : Reach (OpenJ c L R) u S) : H u < 2 * m := by
  refine Int.not_le.1 fun hge => ?_
  refine no_heights (m := m) (H := H) (a := m) fun k hk => ?_
  obtain ⟨w, h1, h2⟩ := height_path (H := H) (G := OpenJ c L R) (fun a b ⟨j, g1, g2, g3, g4⟩ => by rw [← g2, ← g3]; exact hval j g1 g4) hr (m + k) (by omega) (by omega)
  exact ⟨w, reach_lt r hu h1, h2⟩
theorem PreOK.lift {p : Pre} {u : Nat} (h : PreOK n m L c p) (r : Row n m L c) (hu : u < m) (hS : StuckP n c p u) : PreOK n m L c (liftP c p m u) ∧ p.H.getD u 0 ≤ lowV c p m u := by
  obtain ⟨⟨S, hnS, -, hSm⟩, ⟨T, hnT, -, hTm⟩, -, -⟩ := r.ends
  have lh := h.hs.1
  obtain ⟨⟨hA1, hA2, hA3⟩, hB⟩ := hS
  have huS : u ≠ S := by omega
  have huT : u ≠ T := by omega
  have hlow : p.H.getD u 0 ≤ lowV c p m u := by
    have h2 := h.hs.2.2.2 u hu
    rcases (lowV_at p r hu).2 with h1 | ⟨j, h1, h3, h4, h5⟩
    · omega
    · have h6 := h.val j h1 h4
      rw [h3] at h6
      have h7 := (r.range h1 hu).2 h3
      have h8 := hB j h7.1 h7.2
      have : p.H.getD u 0 ≠ p.H.getD (hd c j) 0 + 1 := fun e => h8 ⟨h4, e⟩
      omega
  have hHu : ∀ v, (p.H.set u (lowV c p m u + 1)).getD v 0 = if v = u then lowV c p m u + 1 else p.H.getD v 0 := fun v => by
    rw [lset]
    by_cases e : v = u
    · rw [if_pos ⟨e.symm, by omega⟩, if_pos e]
    · rw [if_neg fun h => e h.1.symm, if_neg e]
  have hval : ∀ j, j < L → 0 < p.Res.getD j 0 → (p.H.set u (lowV c p m u + 1)).getD (tl c j) 0 ≤ (p.H.set u (lowV c p m u + 1)).getD (hd c j) 0 + 1 := fun j hj h0 => by
    have ht := r.tlh hj
    rw [hHu, hHu]
    by_cases c1 : tl c j = u
    · have := lowV_le r hu hj c1 h0
      rw [if_pos c1, if_neg fun e => ht.2.2.2 (c1.trans e.symm)]; omega
    · rw [if_neg c1]
      have := h.val j hj h0
      by_cases c2 : hd c j = u
      · rw [if_pos c2]; rw [c2] at this; omega
      · rw [if_neg c2]; exact this
  have hreach := active_reaches r h.ok hnS (fun v hv hvS => h.nn v hv (by omega)) hu hA3
  have hbound := height_bound (H := fun v => (p.H.set u (lowV c p m u + 1)).getD v 0) r hu hval (by simp only [hHu]; rw [if_neg fun e => huS e.symm]; exact h.hs.2.1 S hnS) hreach
  simp only [hHu, if_true] at hbound
  refine ⟨⟨h.ok, h.nn, ⟨by simp [liftP, lh], fun s hs => ?_, fun t ht => ?_, fun v hv => ?_⟩, hval⟩, hlow⟩
  · simp only [liftP]; rw [hHu, if_neg (by omega)]; exact h.hs.2.1 s hs
  · simp only [liftP]; rw [hHu, if_neg (by omega)]; exact h.hs.2.2.1 t ht
  · have h1 := h.hs.2.2.2 v hv
    have h2 := h.hs.2.2.2 u hu
    simp only [liftP]; rw [hHu]
    by_cases e : v = u
    · rw [if_pos e]; omega
    · rw [if_neg e]; exact h1
end row
end Go.Acq
