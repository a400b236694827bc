/- Texts of this claim, one behind the other. -/
import Derived.Test.YtjeenmabclghoaaA2
import Derived.Test.YtjeenmabclghoaaA5
namespace Go.Proofs.Ytjeenmabclghoaa.Ax
open Go Go.Acq Go.RowKit Go.Proofs
set_option linter.unusedVariables false
set_option linter.unusedSimpArgs false
set_option maxHeartbeats 8000000
set_option maxRecDepth 20000
theorem TWBS7a.a24 : aggT Try.prog 24 4 = true := by kernel_rfl
theorem TWBS7a.a29 : aggT Try.prog 29 3 = true := by kernel_rfl
theorem TWBS7a.a32 : aggT Try.prog 32 9 = true := by kernel_rfl
theorem TWBS7a.a67 : aggT Try.prog 67 3 = true := by kernel_rfl
theorem TWBS7a.b2 : bytesT Try.prog 2 = some 8 := by kernel_rfl
theorem TWBS7a.b3 : bytesT Try.prog 3 = some 8 := by kernel_rfl
theorem TWBS7a.b4 : bytesT Try.prog 4 = some 1 := by kernel_rfl
theorem TWBS7a.c15 : callable Try.prog 15 = true := by kernel_rfl
theorem TWBS7a.c17 : callable Try.prog 17 = true := by kernel_rfl
theorem TWBS7a.c19 : callable Try.prog 19 = true := by kernel_rfl
theorem TWBS7a.c23 : callable Try.prog 23 = true := by kernel_rfl
theorem TWBS7a.c25 : callable Try.prog 25 = true := by kernel_rfl
theorem TWBS7a.c26 : callable Try.prog 26 = true := by kernel_rfl
theorem TWBS7a.c28 : callable Try.prog 28 = true := by kernel_rfl
theorem TWBS7a.c30 : callable Try.prog 30 = true := by kernel_rfl
theorem TWBS7a.c39 : callable Try.prog 39 = true := by kernel_rfl
theorem TWBS7a.c56 : callable Try.prog 56 = true := by kernel_rfl
theorem TWBS7a.c59 : callable Try.prog 59 = true := by kernel_rfl
theorem TWBS7a.c66 : callable Try.prog 66 = true := by kernel_rfl
theorem TWBS7a.c67 : callable Try.prog 67 = true := by kernel_rfl
theorem TWBS7a.c68 : callable Try.prog 68 = true := by kernel_rfl
theorem TWBS7a.c69 : callable Try.prog 69 = true := by kernel_rfl
theorem TWBS7a.c74 : callable Try.prog 74 = true := by kernel_rfl
theorem TWBS7a.c95 : callable Try.prog 95 = true := by kernel_rfl
theorem TWBS7a.c96 : callable Try.prog 96 = true := by kernel_rfl
theorem TWBS7a.c97 : callable Try.prog 97 = true := by kernel_rfl
theorem TWBS7a.f24_0 : fieldT Try.prog 24 0 = some 0 := by kernel_rfl
theorem TWBS7a.f24_1 : fieldT Try.prog 24 1 = some 1 := by kernel_rfl
theorem TWBS7a.f24_2 : fieldT Try.prog 24 2 = some 2 := by kernel_rfl
theorem TWBS7a.f24_3 : fieldT Try.prog 24 3 = some 3 := by kernel_rfl
theorem TWBS7a.f29_1 : fieldT Try.prog 29 1 = some 1 := by kernel_rfl
theorem TWBS7a.f29_2 : fieldT Try.prog 29 2 = some 2 := by kernel_rfl
theorem TWBS7a.f32_0 : fieldT Try.prog 32 0 = some 0 := by kernel_rfl
theorem TWBS7a.f32_3 : fieldT Try.prog 32 3 = some 3 := by kernel_rfl
theorem TWBS7a.f32_4 : fieldT Try.prog 32 4 = some 4 := by kernel_rfl
theorem TWBS7a.f32_5 : fieldT Try.prog 32 5 = some 5 := by kernel_rfl
theorem TWBS7a.f32_6 : fieldT Try.prog 32 6 = some 6 := by kernel_rfl
theorem TWBS7a.f32_7 : fieldT Try.prog 32 7 = some 7 := by kernel_rfl
theorem TWBS7a.f32_8 : fieldT Try.prog 32 8 = some 8 := by kernel_rfl
theorem TWBS7a.f67_0 : fieldT Try.prog 67 0 = some 0 := by kernel_rfl
theorem TWBS7a.f67_1 : fieldT Try.prog 67 1 = some 1 := by kernel_rfl
theorem TWBS7a.f67_2 : fieldT Try.prog 67 2 = some 2 := by kernel_rfl
theorem TWBS7a.l22 : sliceT Try.prog 22 = some 67 := by kernel_rfl
theorem TWBS7a.l26 : sliceT Try.prog 26 = some 2 := by kernel_rfl
theorem TWBS7a.l27 : sliceT Try.prog 27 = some 3 := by kernel_rfl
theorem TWBS7a.l30 : sliceT Try.prog 30 = some 4 := by kernel_rfl
theorem TWBS7a.n2 : sizeT Try.prog 2 = some 1 := by kernel_rfl
theorem TWBS7a.n24 : sizeT Try.prog 24 = some 4 := by kernel_rfl
theorem TWBS7a.n26 : sizeT Try.prog 26 = some 1 := by kernel_rfl
theorem TWBS7a.n27 : sizeT Try.prog 27 = some 1 := by kernel_rfl
theorem TWBS7a.n29 : sizeT Try.prog 29 = some 3 := by kernel_rfl
theorem TWBS7a.n3 : sizeT Try.prog 3 = some 1 := by kernel_rfl
theorem TWBS7a.n30 : sizeT Try.prog 30 = some 1 := by kernel_rfl
theorem TWBS7a.n32 : sizeT Try.prog 32 = some 9 := by kernel_rfl
theorem TWBS7a.n4 : sizeT Try.prog 4 = some 1 := by kernel_rfl
theorem TWBS7a.n67 : sizeT Try.prog 67 = some 3 := by kernel_rfl
theorem TWBS7a.s2 : scalT Try.prog 2 = true := by kernel_rfl
theorem TWBS7a.s22 : scalT Try.prog 22 = true := by kernel_rfl
theorem TWBS7a.s26 : scalT Try.prog 26 = true := by kernel_rfl
theorem TWBS7a.s27 : scalT Try.prog 27 = true := by kernel_rfl
theorem TWBS7a.s3 : scalT Try.prog 3 = true := by kernel_rfl
theorem TWBS7a.s30 : scalT Try.prog 30 = true := by kernel_rfl
theorem TWBS7a.z2 : zeroT Try.prog 2 = some (.int .i64 0) := by kernel_rfl
theorem TWBS7a.z24 : zeroT Try.prog 24 = some (.agg #[.int .i64 0, .int .i64 0, .int .i64 0, .slice none 0 0]) := by kernel_rfl
theorem TWBS7a.z27 : zeroT Try.prog 27 = some (.slice none 0 0) := by kernel_rfl
theorem TWBS7a.z29 : zeroT Try.prog 29 = some (.agg #[.slice none 0 0, .slice none 0 0, .slice none 0 0]) := by kernel_rfl
theorem TWBS7a.z3 : zeroT Try.prog 3 = some (.int .i64 0) := by kernel_rfl
theorem TWBS7a.z32 : zeroT Try.prog 32 = some (.agg #[.int .i64 0, .int .i64 0, .int .i64 0, .slice none 0 0, .slice none 0 0, .slice none 0 0, .slice none 0 0, .slice none 0 0, .slice none 0 0]) := by kernel_rfl
theorem TWBS7a.z4 : zeroT Try.prog 4 = some (.bool false) := by kernel_rfl
theorem TWBS7a.z67 : zeroT Try.prog 67 = some (.agg #[.int .i64 0, .int .i64 0, .int .i64 0]) := by kernel_rfl
theorem TWBS7ael26 : ElemT Try.prog 26 2 1 8 (.int .i64 0) := ⟨TWBS7a.l26, TWBS7a.n2, TWBS7a.b2, TWBS7a.z2, rfl⟩
theorem TWBS7ael27 : ElemT Try.prog 27 3 1 8 (.int .i64 0) := ⟨TWBS7a.l27, TWBS7a.n3, TWBS7a.b3, TWBS7a.z3, rfl⟩
theorem TWBS7ael30 : ElemT Try.prog 30 4 1 1 (.bool false) := ⟨TWBS7a.l30, TWBS7a.n4, TWBS7a.b4, TWBS7a.z4, rfl⟩
/-- acequia/pre.all -/
theorem w_pre_all_May_1 {c0 : Csr} {so1_0 : Csr} {so1_1 : Pre} {c0f3_b : Option Addr} {c0f3_n : Nat} {c0f3_c : Nat} {c0f4_b : Option Addr} {c0f4_n : Nat} {c0f4_c : Nat} {c0f5_b : Option Addr} {c0f5_n : Nat} {c0f5_c : Nat} {c0f6_b : Option Addr} {c0f6_n : Nat} {c0f6_c : Nat} {c0f7_b : Option Addr} {c0f7_n : Nat} {c0f7_c : Nat} {c0f8_b : Option Addr} {c0f8_n : Nat} {c0f8_c : Nat} {so1_0_k : Nat} {so1_0f3_b : Option Addr} {so1_0f3_n : Nat} {so1_0f3_c : Nat} {so1_0f4_b : Option Addr} {so1_0f4_n : Nat} {so1_0f4_c : Nat} {so1_0f5_b : Option Addr} {so1_0f5_n : Nat} {so1_0f5_c : Nat} {so1_0f6_b : Option Addr} {so1_0f6_n : Nat} {so1_0f6_c : Nat} {so1_0f7_b : Option Addr} {so1_0f7_n : Nat} {so1_0f7_c : Nat} {so1_0f8_b : Option Addr} {so1_0f8_n : Nat} {so1_0f8_c : Nat} {so1_1_k : Nat} {so1_1f0_b : Option Addr} {so1_1f0_n : Nat} {so1_1f0_c : Nat} {so1_1f1_b : Option Addr} {so1_1f1_n : Nat} {so1_1f1_c : Nat} {so1_1f2_b : Option Addr} {so1_1f2_n : Nat} {so1_1f2_c : Nat} (w : World) (h_c0f3 : RS w [] (intC .i64) 1 c0f3_b c0f3_n c0f3_c c0.First) (h_c0f4 : RS w [] (intC .i64) 1 c0f4_b c0f4_n c0f4_c c0.Head) (h_c0f5 : RS w [] (intC .i64) 1 c0f5_b c0f5_n c0f5_c c0.Rev) (h_c0f6 : RS w [] (intC .i64) 1 c0f6_b c0f6_n c0f6_c c0.Cap) (h_c0f7 : RS w [] (intC .i64) 1 c0f7_b c0f7_n c0f7_c c0.Arc) (h_c0f8 : RS w [] boolC 1 c0f8_b c0f8_n c0f8_c c0.Back) (h_so1_0f3 : RS w [] (intC .i64) 1 so1_0f3_b so1_0f3_n so1_0f3_c so1_0.First) (h_so1_0f4 : RS w [] (intC .i64) 1 so1_0f4_b so1_0f4_n so1_0f4_c so1_0.Head) (h_so1_0f5 : RS w [] (intC .i64) 1 so1_0f5_b so1_0f5_n so1_0f5_c so1_0.Rev) (h_so1_0f6 : RS w [] (intC .i64) 1 so1_0f6_b so1_0f6_n so1_0f6_c so1_0.Cap) (h_so1_0f7 : RS w [] (intC .i64) 1 so1_0f7_b so1_0f7_n so1_0f7_c so1_0.Arc) (h_so1_0f8 : RS w [] boolC 1 so1_0f8_b so1_0f8_n so1_0f8_c so1_0.Back) (h_so1_0_k : HB w [] so1_0_k [.int .i64 so1_0.N, .int .i64 so1_0.S, .int .i64 so1_0.T, .slice so1_0f3_b so1_0f3_n so1_0f3_c, .slice so1_0f4_b so1_0f4_n so1_0f4_c, .slice so1_0f5_b so1_0f5_n so1_0f5_c, .slice so1_0f6_b so1_0f6_n so1_0f6_c, .slice so1_0f7_b so1_0f7_n so1_0f7_c, .slice so1_0f8_b so1_0f8_n so1_0f8_c]) (h_so1_1f0 : RS w [] (intC .i64) 1 so1_1f0_b so1_1f0_n so1_1f0_c so1_1.Res) (h_so1_1f1 : RS w [] (intC .i64) 1 so1_1f1_b so1_1f1_n so1_1f1_c so1_1.Ex) (h_so1_1f2 : RS w [] (intC .i64) 1 so1_1f2_b so1_1f2_n so1_1f2_c so1_1.H) (h_so1_1_k : HB w [] so1_1_k [.slice so1_1f0_b so1_1f0_n so1_1f0_c, .slice so1_1f1_b so1_1f1_n so1_1f1_c, .slice so1_1f2_b so1_1f2_n so1_1f2_c]) {r0 : List Int} (H : m_pre_all_May_1 c0 so1_0 so1_1 = some r0) : Fnc Try.prog 68 #[.agg #[.int .i64 c0.N, .int .i64 c0.S, .int .i64 c0.T, .slice c0f3_b c0f3_n c0f3_c, .slice c0f4_b c0f4_n c0f4_c, .slice c0f5_b c0f5_n c0f5_c, .slice c0f6_b c0f6_n c0f6_c, .slice c0f7_b c0f7_n c0f7_c, .slice c0f8_b c0f8_n c0f8_c], .func (.func 69) #[] #[.pointer (some ⟨so1_0_k, 0, none⟩), .pointer (some ⟨so1_1_k, 0, none⟩)]] w [] (fun v N => ∃ (ob_0 : Option Nat) (n_0 : Nat) (c_0 : Nat) (j_0 : List Value), v = .slice (sb ob_0) n_0 c_0 ∧ N = [(ob_0, .cells (arr (intC .i64) r0 j_0).toArray 3 (0, 0))] ∧ r0.length = n_0 ∧ n_0 ≤ c_0 ∧ j_0.length = (c_0 - n_0) * 1 ∧ (ob_0 = none → c_0 = 0)) := by
  unfold m_pre_all_May_1 at H
  refine Fnc.enter (vs := [.agg #[.int .i64 c0.N, .int .i64 c0.S, .int .i64 c0.T, .slice c0f3_b c0f3_n c0f3_c, .slice c0f4_b c0f4_n c0f4_c, .slice c0f5_b c0f5_n c0f5_c, .slice c0f6_b c0f6_n c0f6_c, .slice c0f7_b c0f7_n c0f7_c, .slice c0f8_b c0f8_n c0f8_c], .func (.func 69) #[] #[.pointer (some ⟨so1_0_k, 0, none⟩), .pointer (some ⟨so1_1_k, 0, none⟩)]]) Try.func68 rfl rfl (Inv.refl w) ?_
  refine T.seq ?_
  refine T.regionL (ll := [0, 1]) rfl ?_
  refine TO.boxA rfl rfl rfl rfl ?_; intro b1
  refine TO.assign rfl rfl rfl rfl ?_
  refine TO.done ?_
  refine X.seq_normal ?_
  refine T.seq ?_
  refine T.regionL (ll := [0]) rfl ?_
  refine TO.assign rfl rfl rfl rfl ?_
  refine TO.done ?_
  refine X.seq_normal ?_
  refine T.seq ?_
  refine T.seq ?_
  refine T.regionL (ll := [0, 1, 2]) rfl ?_
  refine TO.fieldAddr0 rfl rfl rfl rfl TWBS7a.f32_0 ?_
  refine TO.load1 rfl rfl rfl rfl TWBS7a.s3 mm0 rfl ?_
  refine TO.move rfl rfl rfl rfl ?_
  refine TO.done ?_
  refine X.seq_normal ?_
  refine T.meetSE5 (fun (out30 : List Int) (n31 : Nat) (c32 : Nat) (ob33 : Option Nat) (j34 : List Value) => m_pre_all_May_1_j2 out30 = some r0 ∧ out30.length = n31 ∧ n31 ≤ c32 ∧ j34.length = (c32 - n31) * 1 ∧ (ob33 = none → c32 = 0)) (fun (out30 : List Int) (n31 : Nat) (c32 : Nat) (ob33 : Option Nat) (j34 : List Value) => [(5, .slice (sb ob33) n31 c32)]) (fun (out30 : List Int) (n31 : Nat) (c32 : Nat) (ob33 : Option Nat) (j34 : List Value) => [(ob33, .cells (arr (intC .i64) out30 j34).toArray 3 (0, 0))]) ?_ ?_
  ·
    refine T.block ?_
    obtain ⟨o_1, e_1, K_1⟩ := bd_some H
    refine T.loopE7 (fun (m_1 : Nat) (out3 : List Int) (n4 : Nat) (c5 : Nat) (ob6 : Option Nat) (j7 : List Value) (x13 : Int) => loopM (fun s => m_pre_all_May_1_s1 c0 so1_0 so1_1 s.1 s.2) m_1 (out3, x13) = some o_1 ∧ out3.length = n4 ∧ n4 ≤ c5 ∧ j7.length = (c5 - n4) * 1 ∧ (ob6 = none → c5 = 0)) (fun (m_1 : Nat) (out3 : List Int) (n4 : Nat) (c5 : Nat) (ob6 : Option Nat) (j7 : List Value) (x13 : Int) => [(1, .func (.func 69) #[] #[.pointer (some ⟨so1_0_k, 0, none⟩), .pointer (some ⟨so1_1_k, 0, none⟩)]), (5, .slice (sb ob6) n4 c5), (8, .int .i64 c0.N), (9, .int .i64 x13)]) (fun (m_1 : Nat) (out3 : List Int) (n4 : Nat) (c5 : Nat) (ob6 : Option Nat) (j7 : List Value) (x13 : Int) => [(ob6, .cells (arr (intC .i64) out3 j7).toArray 3 (0, 0))]) (fun (m_1 : Nat) (out3 : List Int) (n4 : Nat) (c5 : Nat) (ob6 : Option Nat) (j7 : List Value) (x13 : Int) => m_1) FUEL ([]) 0 0 none ([]) 0 ⟨e_1, rfl, (Nat.le_refl _), (zeroJ 0 _), (fun _ => rfl)⟩ (AllF.cons rfl (AllF.cons rfl (AllF.cons rfl (AllF.cons rfl AllF.nil)))) (Pick.none Pick.nil) ?_
    rintro m_1 out3 n4 c5 ob6 j7 x13 ⟨H, hn8, hc9, hj10, hz11⟩
    obtain ⟨n_1, r_1, rfl, H, C_1⟩ := loopM_some H
    have H : m_pre_all_May_1_s1 c0 so1_0 so1_1 out3 x13 = some r_1 := H
    unfold m_pre_all_May_1_s1 at H
    refine T.seq ?_
    refine T.regionL (ll := [0]) rfl ?_
    refine TO.bin rfl rfl rfl rfl rfl rfl ?_
    refine TO.done ?_
    refine X.seq_normal ?_
    refine T.seq ?_
    rcases ite_some H with ⟨g14, H⟩ | ⟨g14, H⟩
    ·
      refine T.condPT rfl g14 ?_
      refine T.skip ?_
      refine X.seq_normal ?_
      refine T.seq ?_
      refine T.block ?_
      refine T.seq ?_
      refine T.regionL (ll := [0, 1]) rfl ?_
      refine TO.move rfl rfl rfl rfl ?_
      refine TO.assign rfl rfl rfl rfl ?_
      refine TO.done ?_
      refine X.seq_normal ?_
      refine T.seq ?_
      obtain ⟨r15, e16, H⟩ := bd_some H
      refine T.regionL (ll := [0, 1, 2]) rfl ?_
      refine TO.move rfl rfl rfl rfl ?_
      refine TO.move rfl rfl rfl rfl ?_
      refine TO.callVX TWBS7a.c69 rfl rfl rfl rfl rfl (fun wc hwc => w_pre_May_1 (u0 := x13) (c1 := so1_0) (c2 := so1_1) wc (h_so1_0f3.mono hwc) (h_so1_0f4.mono hwc) (h_so1_0f5.mono hwc) (h_so1_0f6.mono hwc) (h_so1_0f7.mono hwc) (h_so1_0f8.mono hwc) (h_so1_0_k.mono hwc) (h_so1_1f0.mono hwc) (h_so1_1f1.mono hwc) (h_so1_1f2.mono hwc) (h_so1_1_k.mono hwc) e16) ?_
      rintro _ _ ⟨rfl, rfl⟩
      refine TO.done ?_
      refine X.seq_normal ?_
      rcases ite_some H with ⟨g17, H⟩ | ⟨g17, H⟩
      ·
        refine T.condT rfl g17 ?_
        obtain ⟨g20, H⟩ := gd_some H
        refine T.regionL (ll := [0, 1, 2, 3, 4]) rfl ?_
        refine TO.move rfl rfl rfl rfl ?_
        refine TO.move rfl rfl rfl rfl ?_
        refine TO.buildSliceS [.int .i64 0] [0] rfl rfl rfl rfl TWBS7a.l27 TWBS7a.n3 TWBS7a.z3 rfl rfl (by simp only [setAll, setCells, Value.cells, List.toList_toArray, List.getD_cons_zero, List.getD_cons_succ, List.set_cons_zero, List.set_cons_succ]; rfl) (by kernel_rfl) ?_; intro b18
        refine TO.app (f := (intC .i64)) (s := 1) (xs := out3) (ob := ob6) (j := j7) (ys := [x13]) (fun _ => rfl) (fun _ => rfl) TWBS7ael27 g20 rfl rfl rfl rfl rfl tk1 hn8 hc9 hj10 hz11 (fun wc hwc => (hwc.rs (f := (intC .i64)) (s := 1) (xs := [x13]) (j := ([])) (fun _ => rfl) mm0 rfl (Nat.le_refl _) someZ)) ?_; intro ob21 c22 j23 hc24 hj25 hz26
        refine TO.assign rfl rfl rfl rfl ?_
        refine TO.done ?_
        refine X.block_normal ?_
        refine X.seq_normal ?_
        refine T.trim (AllF.cons (t := 1) rfl (AllF.cons (t := 5) rfl (AllF.cons (t := 8) rfl (AllF.cons (t := 9) rfl AllF.nil)))) ?_
        obtain ⟨g28, H⟩ := gd_some H
        refine T.regionL (ll := [0, 1]) rfl ?_
        refine TO.addG g28 rfl rfl rfl rfl rfl ?_
        refine TO.move rfl rfl rfl rfl ?_
        refine TO.done ?_
        have H := loop_next H C_1
        exact X.againE7 n_1 (out3 ++ ([x13])) (n4 + 1) c22 ob21 j23 (x13 + 1) ⟨H, (lenApp hn8 rfl), hc24, hj25, hz26⟩ (Nat.lt_succ_self _) (AllF.cons rfl (AllF.cons rfl (AllF.cons rfl (AllF.cons rfl AllF.nil)))) (Pick.cons tk0 Pick.nil)
      ·
        refine T.condF rfl (Bool.eq_false_iff.2 g17) ?_
        refine T.skip ?_
        refine X.block_normal ?_
        refine X.seq_normal ?_
        obtain ⟨g29, H⟩ := gd_some H
        refine T.regionL (ll := [0, 1]) rfl ?_
        refine TO.addG g29 rfl rfl rfl rfl rfl ?_
        refine TO.move rfl rfl rfl rfl ?_
        refine TO.done ?_
        have H := loop_next H C_1
        exact X.againE7 n_1 out3 n4 c5 ob6 j7 (x13 + 1) ⟨H, hn8, hc9, hj10, hz11⟩ (Nat.lt_succ_self _) (AllF.cons rfl (AllF.cons rfl (AllF.cons rfl (AllF.cons rfl AllF.nil)))) (Pick.cons tk0 Pick.nil)
    ·
      refine T.condPF rfl g14 ?_
      refine T.exit ?_
      refine X.then_exit ?_
      have H := loop_exitE H C_1 ▸ K_1
      refine X.then_exit ?_
      refine X.block_here ?_
      exact X.metE5 out3 n4 c5 ob6 j7 ⟨H, hn8, hc9, hj10, hz11⟩ (AllF.cons rfl AllF.nil) (Pick.cons tk0 Pick.nil)
  · rintro out30 n31 c32 ob33 j34 ⟨H, hn35, hc36, hj37, hz38⟩
    unfold m_pre_all_May_1_j2 at H
    refine T.seq ?_
    refine T.regionL (ll := [0, 1]) rfl ?_
    refine TO.move rfl rfl rfl rfl ?_
    refine TO.assign rfl rfl rfl rfl ?_
    refine TO.done ?_
    refine X.seq_normal ?_
    refine T.ret ?_
    obtain rfl := ret1 H
    exact X.ret1 rfl rfl rfl rfl (Res.tmp rfl) (Pick.cons tk0 Pick.nil) ⟨ob33, n31, c32, j34, rfl, rfl, hn35, hc36, hj37, hz38⟩
/-- acequia/pre.May -/
theorem w_pre_May {c0 : Csr} {p1 : Pre} {c0f3_b : Option Addr} {c0f3_n : Nat} {c0f3_c : Nat} {c0f4_b : Option Addr} {c0f4_n : Nat} {c0f4_c : Nat} {c0f5_b : Option Addr} {c0f5_n : Nat} {c0f5_c : Nat} {c0f6_b : Option Addr} {c0f6_n : Nat} {c0f6_c : Nat} {c0f7_b : Option Addr} {c0f7_n : Nat} {c0f7_c : Nat} {c0f8_b : Option Addr} {c0f8_n : Nat} {c0f8_c : Nat} {p1f0_b : Option Addr} {p1f0_n : Nat} {p1f0_c : Nat} {p1f1_b : Option Addr} {p1f1_n : Nat} {p1f1_c : Nat} {p1f2_b : Option Addr} {p1f2_n : Nat} {p1f2_c : Nat} (w : World) (h_c0f3 : RS w [] (intC .i64) 1 c0f3_b c0f3_n c0f3_c c0.First) (h_c0f4 : RS w [] (intC .i64) 1 c0f4_b c0f4_n c0f4_c c0.Head) (h_c0f5 : RS w [] (intC .i64) 1 c0f5_b c0f5_n c0f5_c c0.Rev) (h_c0f6 : RS w [] (intC .i64) 1 c0f6_b c0f6_n c0f6_c c0.Cap) (h_c0f7 : RS w [] (intC .i64) 1 c0f7_b c0f7_n c0f7_c c0.Arc) (h_c0f8 : RS w [] boolC 1 c0f8_b c0f8_n c0f8_c c0.Back) (h_p1f0 : RS w [] (intC .i64) 1 p1f0_b p1f0_n p1f0_c p1.Res) (h_p1f1 : RS w [] (intC .i64) 1 p1f1_b p1f1_n p1f1_c p1.Ex) (h_p1f2 : RS w [] (intC .i64) 1 p1f2_b p1f2_n p1f2_c p1.H) {r0 : List Int} {r1 : List Int} (H : m_pre_May c0 p1 = some (r0, r1)) : Fnc Try.prog 23 #[.agg #[.int .i64 c0.N, .int .i64 c0.S, .int .i64 c0.T, .slice c0f3_b c0f3_n c0f3_c, .slice c0f4_b c0f4_n c0f4_c, .slice c0f5_b c0f5_n c0f5_c, .slice c0f6_b c0f6_n c0f6_c, .slice c0f7_b c0f7_n c0f7_c, .slice c0f8_b c0f8_n c0f8_c], .agg #[.slice p1f0_b p1f0_n p1f0_c, .slice p1f1_b p1f1_n p1f1_c, .slice p1f2_b p1f2_n p1f2_c]] w [] (fun v N => ∃ (ob_0 : Option Nat) (n_0 : Nat) (c_0 : Nat) (j_0 : List Value) (ob_4 : Option Nat) (n_4 : Nat) (c_4 : Nat) (j_4 : List Value), v = .tuple #[.slice (sb ob_0) n_0 c_0, .slice (sb ob_4) n_4 c_4] ∧ N = [(ob_0, .cells (arr (intC .i64) r0 j_0).toArray 3 (0, 0)), (ob_4, .cells (arr (intC .i64) r1 j_4).toArray 3 (0, 0))] ∧ r0.length = n_0 ∧ n_0 ≤ c_0 ∧ j_0.length = (c_0 - n_0) * 1 ∧ (ob_0 = none → c_0 = 0) ∧ r1.length = n_4 ∧ n_4 ≤ c_4 ∧ j_4.length = (c_4 - n_4) * 1 ∧ (ob_4 = none → c_4 = 0)) := by
  unfold m_pre_May at H
  refine Fnc.enterM (vs := [.agg #[.int .i64 c0.N, .int .i64 c0.S, .int .i64 c0.T, .slice c0f3_b c0f3_n c0f3_c, .slice c0f4_b c0f4_n c0f4_c, .slice c0f5_b c0f5_n c0f5_c, .slice c0f6_b c0f6_n c0f6_c, .slice c0f7_b c0f7_n c0f7_c, .slice c0f8_b c0f8_n c0f8_c], .agg #[.slice p1f0_b p1f0_n p1f0_c, .slice p1f1_b p1f1_n p1f1_c, .slice p1f2_b p1f2_n p1f2_c]]) Try.func23 rfl rfl (Inv.refl w) ?_
  refine T.seq ?_
  refine T.regionL (ll := [0, 1, 2, 3]) rfl ?_
  refine TO.boxA rfl rfl rfl rfl ?_; intro b1
  refine TO.boxA rfl rfl rfl rfl ?_; intro b3
  refine TO.assign rfl rfl rfl rfl ?_
  refine TO.assign rfl rfl rfl rfl ?_
  refine TO.done ?_
  refine X.seq_normal ?_
  refine T.seq ?_
  refine T.regionL (ll := [0]) rfl ?_
  refine TO.alloc rfl rfl rfl TWBS7a.z27 ?_; intro b5
  refine TO.done ?_
  refine X.seq_normal ?_
  refine T.seq ?_
  refine T.seq ?_
  refine T.regionL (ll := [0, 1, 2]) rfl ?_
  refine TO.fieldAddr0 rfl rfl rfl rfl TWBS7a.f32_0 ?_
  refine TO.load1 rfl rfl rfl rfl TWBS7a.s3 mm2 rfl ?_
  refine TO.move rfl rfl rfl rfl ?_
  refine TO.done ?_
  refine X.seq_normal ?_
  refine T.meetSEM6 (fun (out56 : List Int) (n57 : Nat) (c58 : Nat) (ob59 : Option Nat) (j60 : List Value) (ms66 : List Nat) => m_pre_May_j4 c0 p1 out56 = some (r0, r1) ∧ out56.length = n57 ∧ n57 ≤ c58 ∧ j60.length = (c58 - n57) * 1 ∧ (ob59 = none → c58 = 0)) (fun (out56 : List Int) (n57 : Nat) (c58 : Nat) (ob59 : Option Nat) (j60 : List Value) (ms66 : List Nat) => [(2, .pointer (some ⟨b1, 0, none⟩)), (3, .pointer (some ⟨b3, 0, none⟩)), (6, .pointer (some ⟨b5, 0, none⟩))]) (fun (out56 : List Int) (n57 : Nat) (c58 : Nat) (ob59 : Option Nat) (j60 : List Value) (ms66 : List Nat) => ((some b1, .cells #[.int .i64 c0.N, .int .i64 c0.S, .int .i64 c0.T, .slice c0f3_b c0f3_n c0f3_c, .slice c0f4_b c0f4_n c0f4_c, .slice c0f5_b c0f5_n c0f5_c, .slice c0f6_b c0f6_n c0f6_c, .slice c0f7_b c0f7_n c0f7_c, .slice c0f8_b c0f8_n c0f8_c] 32 (0, 0)) :: (some b3, .cells #[.slice p1f0_b p1f0_n p1f0_c, .slice p1f1_b p1f1_n p1f1_c, .slice p1f2_b p1f2_n p1f2_c] 29 (0, 0)) :: (some b5, .cells #[.slice (sb ob59) n57 c58] 27 (0, 0)) :: (ob59, .cells (arr (intC .i64) out56 j60).toArray 3 (0, 0)) :: markH ms66)) (fun (out56 : List Int) (n57 : Nat) (c58 : Nat) (ob59 : Option Nat) (j60 : List Value) (ms66 : List Nat) => ms66.map mkD) ?_ ?_
  ·
    refine T.block ?_
    obtain ⟨o_1, e_1, K_1⟩ := bd_some H
    refine T.loopEM8 (fun (m_1 : Nat) (out7 : List Int) (n8 : Nat) (c9 : Nat) (ob10 : Option Nat) (j11 : List Value) (x17 : Int) (ms18 : List Nat) => loopM (fun s => m_pre_May_s1 c0 p1 s.1 s.2) m_1 (out7, x17) = some o_1 ∧ out7.length = n8 ∧ n8 ≤ c9 ∧ j11.length = (c9 - n8) * 1 ∧ (ob10 = none → c9 = 0)) (fun (m_1 : Nat) (out7 : List Int) (n8 : Nat) (c9 : Nat) (ob10 : Option Nat) (j11 : List Value) (x17 : Int) (ms18 : List Nat) => [(2, .pointer (some ⟨b1, 0, none⟩)), (3, .pointer (some ⟨b3, 0, none⟩)), (6, .pointer (some ⟨b5, 0, none⟩)), (10, .int .i64 c0.N), (11, .int .i64 x17)]) (fun (m_1 : Nat) (out7 : List Int) (n8 : Nat) (c9 : Nat) (ob10 : Option Nat) (j11 : List Value) (x17 : Int) (ms18 : List Nat) => ((some b1, .cells #[.int .i64 c0.N, .int .i64 c0.S, .int .i64 c0.T, .slice c0f3_b c0f3_n c0f3_c, .slice c0f4_b c0f4_n c0f4_c, .slice c0f5_b c0f5_n c0f5_c, .slice c0f6_b c0f6_n c0f6_c, .slice c0f7_b c0f7_n c0f7_c, .slice c0f8_b c0f8_n c0f8_c] 32 (0, 0)) :: (some b3, .cells #[.slice p1f0_b p1f0_n p1f0_c, .slice p1f1_b p1f1_n p1f1_c, .slice p1f2_b p1f2_n p1f2_c] 29 (0, 0)) :: (some b5, .cells #[.slice (sb ob10) n8 c9] 27 (0, 0)) :: (ob10, .cells (arr (intC .i64) out7 j11).toArray 3 (0, 0)) :: markH ms18)) (fun (m_1 : Nat) (out7 : List Int) (n8 : Nat) (c9 : Nat) (ob10 : Option Nat) (j11 : List Value) (x17 : Int) (ms18 : List Nat) => m_1) (fun (m_1 : Nat) (out7 : List Int) (n8 : Nat) (c9 : Nat) (ob10 : Option Nat) (j11 : List Value) (x17 : Int) (ms18 : List Nat) => ms18.map mkD) FUEL ([]) 0 0 none ([]) 0 ([]) rfl ⟨e_1, rfl, (Nat.le_refl _), (zeroJ 0 _), (fun _ => rfl)⟩ (AllF.cons rfl (AllF.cons rfl (AllF.cons rfl (AllF.cons rfl (AllF.cons rfl AllF.nil))))) (Pick.cons tk2 (Pick.cons tk1 (Pick.cons tk0 (Pick.none (Pick.refl _))))) ?_
    rintro m_1 out7 n8 c9 ob10 j11 x17 ms18 ⟨H, hn12, hc13, hj14, hz15⟩
    obtain ⟨n_1, r_1, rfl, H, C_1⟩ := loopM_some H
    have H : m_pre_May_s1 c0 p1 out7 x17 = some r_1 := H
    unfold m_pre_May_s1 at H
    refine T.seq ?_
    refine T.regionL (ll := [0]) rfl ?_
    refine TO.bin rfl rfl rfl rfl rfl rfl ?_
    refine TO.done ?_
    refine X.seq_normal ?_
    refine T.seq ?_
    rcases ite_some H with ⟨g19, H⟩ | ⟨g19, H⟩
    ·
      refine T.condPT rfl g19 ?_
      refine T.skip ?_
      refine X.seq_normal ?_
      refine T.seq ?_
      refine T.block ?_
      refine T.seq ?_
      refine T.regionL (ll := [0, 1, 2]) rfl ?_
      refine TO.move rfl rfl rfl rfl ?_
      refine TO.alloc rfl rfl rfl TWBS7a.z3 ?_; intro b20
      refine TO.store1n (cs' := [.int .i64 x17]) rfl rfl rfl rfl tk0 TWBS7a.n3 rfl rfl rfl ?_
      refine TO.done ?_
      refine X.seq_normal ?_
      refine T.seq ?_
      obtain ⟨⟨⟩, e22, H⟩ := bd_some H
      refine T.regionL (ll := [0, 1, 2]) rfl ?_
      refine TO.loadA rfl rfl rfl rfl TWBS7a.a32 mm1 rfl ?_
      refine TO.load1 rfl rfl rfl rfl TWBS7a.s3 mm0 rfl ?_
      refine TO.callX TWBS7a.c59 rfl rfl rfl rfl (fun wc hwc => w_pre_arcs (c0 := c0) (u1 := x17) wc (h_c0f3.mono hwc) (h_c0f4.mono hwc) (h_c0f5.mono hwc) (h_c0f6.mono hwc) (h_c0f7.mono hwc) (h_c0f8.mono hwc) e22) ?_
      rintro _ _ ⟨b23, b24, rfl, rfl⟩
      refine TO.done ?_
      refine X.seq_normal ?_
      refine T.block ?_
      obtain ⟨t_2, e_2, K_2⟩ := bd_some H
      refine T.rangeFunc (S := (List Int)) (X := (Empty)) (V := Int) rfl TWBS7a.c97 rfl rfl (fun v => [.int .i64 v]) (fun _ => rfl) (fun s v => m_pre_May_y2 c0 p1 x17 s v) (fun t Hq => match t with | .inl out27 => ∃ (n28 : Nat) (c29 : Nat) (ob30 : Option Nat) (j31 : List Value), Hq = [(some b5, .cells #[.slice (sb ob30) n28 c29] 27 (0, 0)), (ob30, .cells (arr (intC .i64) out27 j31).toArray 3 (0, 0))] ∧ out27.length = n28 ∧ n28 ≤ c29 ∧ j31.length = (c29 - n28) * 1 ∧ (ob30 = none → c29 = 0) | .inr x => nomatch x) (fun x => nomatch x) out7 t_2 [(some b5, .cells #[.slice (sb ob10) n8 c9] 27 (0, 0)), (ob10, .cells (arr (intC .i64) out7 j11).toArray 3 (0, 0))] ((some b23, .cells #[.int .i64 c0.N, .int .i64 c0.S, .int .i64 c0.T, .slice c0f3_b c0f3_n c0f3_c, .slice c0f4_b c0f4_n c0f4_c, .slice c0f5_b c0f5_n c0f5_c, .slice c0f6_b c0f6_n c0f6_c, .slice c0f7_b c0f7_n c0f7_c, .slice c0f8_b c0f8_n c0f8_c] 32 (0, 0)) :: (some b24, .cells #[.int .i64 x17] 3 (0, 0)) :: (some b20, .cells #[.int .i64 x17] 3 (0, 0)) :: (some b1, .cells #[.int .i64 c0.N, .int .i64 c0.S, .int .i64 c0.T, .slice c0f3_b c0f3_n c0f3_c, .slice c0f4_b c0f4_n c0f4_c, .slice c0f5_b c0f5_n c0f5_c, .slice c0f6_b c0f6_n c0f6_c, .slice c0f7_b c0f7_n c0f7_c, .slice c0f8_b c0f8_n c0f8_c] 32 (0, 0)) :: (some b3, .cells #[.slice p1f0_b p1f0_n p1f0_c, .slice p1f1_b p1f1_n p1f1_c, .slice p1f2_b p1f2_n p1f2_c] 29 (0, 0)) :: markH ms18) ⟨n8, c9, ob10, j11, rfl, hn12, hc13, hj14, hz15⟩ (Pick.cons tk5 (Pick.cons tk5 (Pick.refl _))) ?_ ?_ ?_ ?_
      · intro lp wc J_ H0_ hJ_ hin_ hY_ lo_ hwc hH0
        subst hH0
        exact w_pre_arcs_1 (yy_ := (fun s v => m_pre_May_y2 c0 p1 x17 s v)) (c1 := c0) (c2 := x17) (tt_ := .inl out7) (J_ := J_) wc hin_ hJ_ hY_ (h_c0f3.monoM (by decide) hwc (List.Perm.refl _) rfl) (h_c0f4.monoM (by decide) hwc (List.Perm.refl _) rfl) (h_c0f5.monoM (by decide) hwc (List.Perm.refl _) rfl) (h_c0f6.monoM (by decide) hwc (List.Perm.refl _) rfl) (h_c0f7.monoM (by decide) hwc (List.Perm.refl _) rfl) (h_c0f8.monoM (by decide) hwc (List.Perm.refl _) rfl) (hwc.hbM (cs := [.int .i64 c0.N, .int .i64 c0.S, .int .i64 c0.T, .slice c0f3_b c0f3_n c0f3_c, .slice c0f4_b c0f4_n c0f4_c, .slice c0f5_b c0f5_n c0f5_c, .slice c0f6_b c0f6_n c0f6_c, .slice c0f7_b c0f7_n c0f7_c, .slice c0f8_b c0f8_n c0f8_c]) (List.Perm.refl _) rfl mm0) (hwc.hbM (cs := [.int .i64 x17]) (List.Perm.refl _) rfl mm1) e_2
      · rintro lp w_1 out27 y37 r_2 _ hy ⟨n28, c29, ob30, j31, rfl, hn32, hc33, hj34, hz35⟩ hs_1 ho_1
        refine ⟨[(2, .pointer (some ⟨b1, 0, none⟩)), (3, .pointer (some ⟨b3, 0, none⟩)), (6, .pointer (some ⟨b5, 0, none⟩)), (7, .pointer (some ⟨b20, 0, none⟩)), (10, .int .i64 c0.N), (11, .int .i64 x17), (17, .int .i64 y37), (8, .int .i64 y37)], [(some b5, .cells #[.slice (sb ob30) n28 c29] 27 (0, 0)), (ob30, .cells (arr (intC .i64) out27 j31).toArray 3 (0, 0))], ?_, ?_⟩
        ·
          refine T.regionL (ll := [0]) rfl ?_
          refine TO.assign rfl rfl rfl rfl ?_
          refine TO.done ?_
          exact X.asg (AllF.cons rfl (AllF.cons rfl (AllF.cons rfl (AllF.cons rfl (AllF.cons rfl (AllF.cons rfl (AllF.cons rfl (AllF.cons rfl AllF.nil)))))))) (Pick.refl _)
        · intro w_2 hs_2 hwc
          have h_c0f3 := h_c0f3.monoM (by decide) hwc (List.Perm.refl _) rfl
          have h_c0f4 := h_c0f4.monoM (by decide) hwc (List.Perm.refl _) rfl
          have h_c0f5 := h_c0f5.monoM (by decide) hwc (List.Perm.refl _) rfl
          have h_c0f6 := h_c0f6.monoM (by decide) hwc (List.Perm.refl _) rfl
          have h_c0f7 := h_c0f7.monoM (by decide) hwc (List.Perm.refl _) rfl
          have h_c0f8 := h_c0f8.monoM (by decide) hwc (List.Perm.refl _) rfl
          have h_p1f0 := h_p1f0.monoM (by decide) hwc (List.Perm.refl _) rfl
          have h_p1f1 := h_p1f1.monoM (by decide) hwc (List.Perm.refl _) rfl
          have h_p1f2 := h_p1f2.monoM (by decide) hwc (List.Perm.refl _) rfl
          have hb_e2 := hwc.hbM (cs := [.int .i64 c0.N, .int .i64 c0.S, .int .i64 c0.T, .slice c0f3_b c0f3_n c0f3_c, .slice c0f4_b c0f4_n c0f4_c, .slice c0f5_b c0f5_n c0f5_c, .slice c0f6_b c0f6_n c0f6_c, .slice c0f7_b c0f7_n c0f7_c, .slice c0f8_b c0f8_n c0f8_c]) (List.Perm.refl _) rfl mm3
          have hb_e21 := hwc.hbM (cs := [.int .i64 x17]) (List.Perm.refl _) rfl mm2
          have hb_e4 := hwc.hbM (cs := [.slice p1f0_b p1f0_n p1f0_c, .slice p1f1_b p1f1_n p1f1_c, .slice p1f2_b p1f2_n p1f2_c]) (List.Perm.refl _) rfl mm4
          have H : m_pre_May_y2 c0 p1 x17 out27 y37 = some r_2 := hy
          unfold m_pre_May_y2 at H
          refine T.block ?_
          refine T.seq ?_
          refine T.meetSE1 (fun (x43 : Bool) => m_pre_May_j3 out27 y37 x43 = some r_2) (fun (x43 : Bool) => [(2, .pointer (some ⟨b1, 0, none⟩)), (3, .pointer (some ⟨b3, 0, none⟩)), (6, .pointer (some ⟨b5, 0, none⟩)), (7, .pointer (some ⟨b20, 0, none⟩)), (8, .int .i64 y37), (10, .int .i64 c0.N), (11, .int .i64 x17), (17, .int .i64 y37), (28, .bool x43)]) (fun (x43 : Bool) => [(some b5, .cells #[.slice (sb ob30) n28 c29] 27 (0, 0)), (ob30, .cells (arr (intC .i64) out27 j31).toArray 3 (0, 0))]) ?_ ?_
          ·
            obtain ⟨r38, e39, H⟩ := bd_some H
            rcases ite_some H with ⟨g40, H⟩ | ⟨g40, H⟩
            ·
              obtain ⟨r41, e42, H⟩ := bd_some H
              refine T.regionL (ll := [0, 1, 2, 3, 4, 5, 6, 7, 8, 9, 10]) rfl ?_
              refine TO.ldHBA hb_e2 rfl rfl rfl rfl rfl TWBS7a.a32 ?_
              refine TO.ldHBA hb_e4 rfl rfl rfl rfl rfl TWBS7a.a29 ?_
              refine TO.ldHB hb_e21 rfl rfl rfl rfl rfl TWBS7a.s3 ?_
              refine TO.callX TWBS7a.c66 rfl rfl rfl rfl (fun wc hwc => w_pre_active (c0 := c0) (p1 := p1) (u2 := x17) wc (h_c0f3.mono hwc) (h_c0f4.mono hwc) (h_c0f5.mono hwc) (h_c0f6.mono hwc) (h_c0f7.mono hwc) (h_c0f8.mono hwc) (h_p1f0.mono hwc) (h_p1f1.mono hwc) (h_p1f2.mono hwc) e39) ?_
              rintro _ _ ⟨rfl, rfl⟩
              refine TO.move rfl rfl rfl rfl ?_
              refine TO.decB (t := 22) (b' := true) rfl g40 ?_
              refine TO.ldHBA hb_e2 rfl rfl rfl rfl rfl TWBS7a.a32 ?_
              refine TO.ldHBA hb_e4 rfl rfl rfl rfl rfl TWBS7a.a29 ?_
              refine TO.ldHB hb_e21 rfl rfl rfl rfl rfl TWBS7a.s3 ?_
              refine TO.move rfl rfl rfl rfl ?_
              refine TO.callX TWBS7a.c67 rfl rfl rfl rfl (fun wc hwc => w_pre_admissible (c0 := c0) (p1 := p1) (u2 := x17) (a3 := y37) wc (h_c0f3.mono hwc) (h_c0f4.mono hwc) (h_c0f5.mono hwc) (h_c0f6.mono hwc) (h_c0f7.mono hwc) (h_c0f8.mono hwc) (h_p1f0.mono hwc) (h_p1f1.mono hwc) (h_p1f2.mono hwc) e42) ?_
              rintro _ _ ⟨rfl, rfl⟩
              refine TO.pickT rfl rfl rfl rfl rfl ?_
              refine TO.done ?_
              exact X.metE1 r41 H (AllF.cons rfl (AllF.cons rfl (AllF.cons rfl (AllF.cons rfl (AllF.cons rfl (AllF.cons rfl (AllF.cons rfl (AllF.cons rfl (AllF.cons rfl AllF.nil))))))))) (Pick.cons tk0 (Pick.cons tk0 Pick.nil))
            ·
              refine T.regionL (ll := [0, 1, 2, 3, 4, 5, 6, 7, 8, 9, 10]) rfl ?_
              refine TO.ldHBA hb_e2 rfl rfl rfl rfl rfl TWBS7a.a32 ?_
              refine TO.ldHBA hb_e4 rfl rfl rfl rfl rfl TWBS7a.a29 ?_
              refine TO.ldHB hb_e21 rfl rfl rfl rfl rfl TWBS7a.s3 ?_
              refine TO.callX TWBS7a.c66 rfl rfl rfl rfl (fun wc hwc => w_pre_active (c0 := c0) (p1 := p1) (u2 := x17) wc (h_c0f3.mono hwc) (h_c0f4.mono hwc) (h_c0f5.mono hwc) (h_c0f6.mono hwc) (h_c0f7.mono hwc) (h_c0f8.mono hwc) (h_p1f0.mono hwc) (h_p1f1.mono hwc) (h_p1f2.mono hwc) e39) ?_
              rintro _ _ ⟨rfl, rfl⟩
              refine TO.move rfl rfl rfl rfl ?_
              refine TO.decB (t := 22) (b' := false) rfl (Bool.eq_false_iff.2 g40) ?_
              refine TO.shut rfl rfl rfl rfl ?_
              refine TO.shut rfl rfl rfl rfl ?_
              refine TO.shut rfl rfl rfl rfl ?_
              refine TO.shut rfl rfl rfl rfl ?_
              refine TO.shut rfl rfl rfl rfl ?_
              refine TO.pickF rfl rfl rfl rfl rfl ?_
              refine TO.done ?_
              exact X.metE1 false H (AllF.cons rfl (AllF.cons rfl (AllF.cons rfl (AllF.cons rfl (AllF.cons rfl (AllF.cons rfl (AllF.cons rfl (AllF.cons rfl (AllF.cons rfl AllF.nil))))))))) (Pick.cons tk0 (Pick.cons tk0 Pick.nil))
          · rintro x43 H
            unfold m_pre_May_j3 at H
            rcases ite_some H with ⟨g44, H⟩ | ⟨g44, H⟩
            ·
              refine T.condT rfl g44 ?_
              obtain ⟨g47, H⟩ := gd_some H
              refine T.regionL (ll := [0, 1, 2, 3, 4]) rfl ?_
              refine TO.load1 rfl rfl rfl rfl TWBS7a.s27 mm0 rfl ?_
              refine TO.move rfl rfl rfl rfl ?_
              refine TO.buildSliceS [.int .i64 0] [0] rfl rfl rfl rfl TWBS7a.l27 TWBS7a.n3 TWBS7a.z3 rfl rfl (by simp only [setAll, setCells, Value.cells, List.toList_toArray, List.getD_cons_zero, List.getD_cons_succ, List.set_cons_zero, List.set_cons_succ]; rfl) (by kernel_rfl) ?_; intro b45
              refine TO.app (f := (intC .i64)) (s := 1) (xs := out27) (ob := ob30) (j := j31) (ys := [y37]) (fun _ => rfl) (fun _ => rfl) TWBS7ael27 g47 rfl rfl rfl rfl rfl tk2 hn32 hc33 hj34 hz35 (fun wc hwc => (hwc.rs (f := (intC .i64)) (s := 1) (xs := [y37]) (j := ([])) (fun _ => rfl) mm0 rfl (Nat.le_refl _) someZ)) ?_; intro ob48 c49 j50 hc51 hj52 hz53
              refine TO.store1n (cs' := [.slice (sb ob48) (n28 + 1) c49]) rfl rfl rfl rfl tk2 TWBS7a.n27 rfl rfl rfl ?_
              refine TO.done ?_
              refine X.block_normal ?_
              exact X.rfNext H ⟨(n28 + 1), c49, ob48, j50, rfl, (lenApp hn32 rfl), hc51, hj52, hz53⟩ (Pick.cons tk0 (Pick.cons tk0 Pick.nil))
            ·
              refine T.condF rfl (Bool.eq_false_iff.2 g44) ?_
              refine T.skip ?_
              refine X.block_normal ?_
              exact X.rfNext H ⟨n28, c29, ob30, j31, rfl, hn32, hc33, hj34, hz35⟩ (Pick.cons tk0 (Pick.cons tk0 Pick.nil))
      ·
        rintro out27 ht rr_2 _ ⟨n28, c29, ob30, j31, rfl, hn32, hc33, hj34, hz35⟩
        subst ht
        have H : (gd (i64ok (x17 + 1)) <|
  some (.inl (out27, (x17 + 1)))) = some r_1 := K_2
        refine X.reheap (H := ((some b5, .cells #[.slice (sb ob30) n28 c29] 27 (0, 0)) :: (ob30, .cells (arr (intC .i64) out27 j31).toArray 3 (0, 0)) :: (some rr_2, mkO) :: (some b23, .cells #[.int .i64 c0.N, .int .i64 c0.S, .int .i64 c0.T, .slice c0f3_b c0f3_n c0f3_c, .slice c0f4_b c0f4_n c0f4_c, .slice c0f5_b c0f5_n c0f5_c, .slice c0f6_b c0f6_n c0f6_c, .slice c0f7_b c0f7_n c0f7_c, .slice c0f8_b c0f8_n c0f8_c] 32 (0, 0)) :: (some b24, .cells #[.int .i64 x17] 3 (0, 0)) :: (some b20, .cells #[.int .i64 x17] 3 (0, 0)) :: (some b1, .cells #[.int .i64 c0.N, .int .i64 c0.S, .int .i64 c0.T, .slice c0f3_b c0f3_n c0f3_c, .slice c0f4_b c0f4_n c0f4_c, .slice c0f5_b c0f5_n c0f5_c, .slice c0f6_b c0f6_n c0f6_c, .slice c0f7_b c0f7_n c0f7_c, .slice c0f8_b c0f8_n c0f8_c] 32 (0, 0)) :: (some b3, .cells #[.slice p1f0_b p1f0_n p1f0_c, .slice p1f1_b p1f1_n p1f1_c, .slice p1f2_b p1f2_n p1f2_c] 29 (0, 0)) :: markH ms18)) rfl ?_
        refine X.block_normal ?_
        refine X.block_normal ?_
        refine X.seq_normal ?_
        obtain ⟨g55, H⟩ := gd_some H
        refine T.regionL (ll := [0, 1]) rfl ?_
        refine TO.addG g55 rfl rfl rfl rfl rfl ?_
        refine TO.move rfl rfl rfl rfl ?_
        refine TO.done ?_
        have H := loop_next H C_1
        exact X.againEM8 n_1 out27 n28 c29 ob30 j31 (x17 + 1) (rr_2 :: ms18) ⟨H, hn32, hc33, hj34, hz35⟩ (Nat.lt_succ_self _) rfl rfl rfl rfl (AllF.cons rfl (AllF.cons rfl (AllF.cons rfl (AllF.cons rfl (AllF.cons rfl AllF.nil))))) (Pick.cons tk6 (Pick.cons tk6 (Pick.cons tk0 (Pick.cons tk0 (Pick.cons tk0 (Pick.skip (Pick.skip (Pick.skip (Pick.refl _)))))))))
      ·
        intro x; exact nomatch x
    ·
      refine T.condPF rfl g19 ?_
      refine T.exit ?_
      refine X.then_exit ?_
      have H := loop_exitE H C_1 ▸ K_1
      refine X.then_exit ?_
      refine X.block_here ?_
      exact X.metEM6 out7 n8 c9 ob10 j11 (ms18) ⟨H, hn12, hc13, hj14, hz15⟩ rfl rfl rfl rfl (AllF.cons rfl (AllF.cons rfl (AllF.cons rfl AllF.nil))) (Pick.cons tk0 (Pick.cons tk0 (Pick.cons tk0 (Pick.cons tk0 (Pick.refl _)))))
  · rintro out56 n57 c58 ob59 j60 ms66 ⟨H, hn61, hc62, hj63, hz64⟩
    unfold m_pre_May_j4 at H
    refine T.seq ?_
    obtain ⟨r67, e68, H⟩ := bd_some H
    apply T.drawLT [⟨[], false, [], relV _⟩, ⟨[], false, [], relV _⟩, ⟨[], false, [], relV _⟩, ⟨[1, 2], false, [], fun _ v e => ∃ (ob69 : Option Nat) (n70 : Nat) (c71 : Nat) (j72 : List Value), v = .slice (sb ob69) n70 c71 ∧ e = [(ob69, .cells (arr (intC .i64) r67 j72).toArray 3 (0, 0))] ∧ r67.length = n70 ∧ n70 ≤ c71 ∧ j72.length = (c71 - n70) * 1 ∧ (ob69 = none → c71 = 0)⟩] [34, 35, 36, 37] 4 (HRk [[]]) [[]] [] [(some b1, .cells #[.int .i64 c0.N, .int .i64 c0.S, .int .i64 c0.T, .slice c0f3_b c0f3_n c0f3_c, .slice c0f4_b c0f4_n c0f4_c, .slice c0f5_b c0f5_n c0f5_c, .slice c0f6_b c0f6_n c0f6_c, .slice c0f7_b c0f7_n c0f7_c, .slice c0f8_b c0f8_n c0f8_c] 32 (0, 0)), (some b3, .cells #[.slice p1f0_b p1f0_n p1f0_c, .slice p1f1_b p1f1_n p1f1_c, .slice p1f2_b p1f2_n p1f2_c] 29 (0, 0)), (some b5, .cells #[.slice (sb ob59) n57 c58] 27 (0, 0)), (ob59, .cells (arr (intC .i64) out56 j60).toArray 3 (0, 0))] (markH ms66)
    · exact mixed
    · exact rfl
    · kernel_rfl
    · kernel_rfl
    · kernel_rfl
    · exact rfl
    · exact rfl
    · exact rfl
    · exact rfl
    · exact (by repeat (first | exact Pick.refl _ | exact Pick.nil | apply Pick.none | refine Pick.cons (by repeat (first | exact Take.head _ _ | apply Take.tail)) ?_))
    · refine ⟨?_, ?_, ?_, ?_, trivial⟩
      · rintro vs es Es Hx -
        refine TO.reenv (D := []) rfl ?_
        refine TO.load1 rfl rfl rfl rfl TWBS7a.s27 mm2 rfl ?_
        refine TO.done ?_; exact X.obQ rfl ⟨rfl, rfl⟩ (Pick.refl _) rfl
      · rintro vs es Es Hx -
        refine TO.reenv (D := []) rfl ?_
        refine TO.loadA rfl rfl rfl rfl TWBS7a.a32 mm0 rfl ?_
        refine TO.done ?_; exact X.obQ rfl ⟨rfl, rfl⟩ (Pick.refl _) rfl
      · rintro vs es Es Hx -
        refine TO.reenv (D := []) rfl ?_
        refine TO.makeFunc rfl rfl rfl rfl rfl ?_
        refine TO.done ?_; exact X.obQ rfl ⟨rfl, rfl⟩ (Pick.refl _) rfl
      · rintro vs es Es Hx ⟨⟨h_1, e_1⟩, ⟨h_2, e_2⟩, -⟩
        refine TO.reenv (D := [(35, vs 1), (36, vs 2)]) rfl ?_; rw [h_1, h_2]
        refine TO.callX TWBS7a.c68 rfl rfl rfl rfl (fun wc hwc => w_pre_all_May_1 (c0 := c0) (so1_0 := c0) (so1_1 := p1) wc (h_c0f3.mono hwc) (h_c0f4.mono hwc) (h_c0f5.mono hwc) (h_c0f6.mono hwc) (h_c0f7.mono hwc) (h_c0f8.mono hwc) (h_c0f3.mono hwc) (h_c0f4.mono hwc) (h_c0f5.mono hwc) (h_c0f6.mono hwc) (h_c0f7.mono hwc) (h_c0f8.mono hwc) (hwc.hb (cs := [.int .i64 c0.N, .int .i64 c0.S, .int .i64 c0.T, .slice c0f3_b c0f3_n c0f3_c, .slice c0f4_b c0f4_n c0f4_c, .slice c0f5_b c0f5_n c0f5_c, .slice c0f6_b c0f6_n c0f6_c, .slice c0f7_b c0f7_n c0f7_c, .slice c0f8_b c0f8_n c0f8_c]) mm0) (h_p1f0.mono hwc) (h_p1f1.mono hwc) (h_p1f2.mono hwc) (hwc.hb (cs := [.slice p1f0_b p1f0_n p1f0_c, .slice p1f1_b p1f1_n p1f1_c, .slice p1f2_b p1f2_n p1f2_c]) mm1) e68) ?_
        rintro _ _ ⟨ob69, n70, c71, j72, rfl, rfl, hn73, hc74, hj75, hz76⟩
        refine TO.done ?_; exact X.obQ rfl ⟨ob69, n70, c71, j72, rfl, rfl, hn73, hc74, hj75, hz76⟩ (by repeat (first | exact Pick.refl _ | exact Pick.nil | apply Pick.none | refine Pick.cons (by repeat (first | exact Take.head _ _ | apply Take.tail)) ?_)) (by show [(35, vs 1), (36, vs 2)] = _; rw [h_1, h_2])
    · rintro vs es hb ⟨⟨h_0, e_0⟩, ⟨h_1, e_1⟩, ⟨h_2, e_2⟩, ⟨ob69, n70, c71, j72, h_3, e_3, hn73, hc74, hj75, hz76⟩, -⟩ hHR
      obtain rfl : hb = [] := hHR
      refine TO.reenv (D := [(34, vs 0), (35, vs 1), (36, vs 2), (37, vs 3)]) rfl ?_
      refine TO.reheap (H := [(some b1, .cells #[.int .i64 c0.N, .int .i64 c0.S, .int .i64 c0.T, .slice c0f3_b c0f3_n c0f3_c, .slice c0f4_b c0f4_n c0f4_c, .slice c0f5_b c0f5_n c0f5_c, .slice c0f6_b c0f6_n c0f6_c, .slice c0f7_b c0f7_n c0f7_c, .slice c0f8_b c0f8_n c0f8_c] 32 (0, 0)), (some b3, .cells #[.slice p1f0_b p1f0_n p1f0_c, .slice p1f1_b p1f1_n p1f1_c, .slice p1f2_b p1f2_n p1f2_c] 29 (0, 0)), (some b5, .cells #[.slice (sb ob59) n57 c58] 27 (0, 0)), (ob59, .cells (arr (intC .i64) out56 j60).toArray 3 (0, 0)), (ob69, .cells (arr (intC .i64) r67 j72).toArray 3 (0, 0))] ++ (markH ms66)) (by show (_ ++ (_ ++ (es 0 ++ (es 1 ++ (es 2 ++ (es 3 ++ ([]))))))) ++ _ = _; rw [e_0, e_1, e_2, e_3]; rfl) ?_
      rw [h_0, h_1, h_2, h_3]
      clear h_3 h_2 h_1 h_0 e_0 e_1 e_2 e_3
      refine TO.assign rfl rfl rfl rfl ?_
      refine TO.assign rfl rfl rfl rfl ?_
      refine TO.done ?_
      refine X.seq_normal ?_
      refine T.ret ?_
      obtain ⟨rfl, rfl⟩ := ret2 H
      exact X.retM2 (ms66) rfl rfl rfl rfl rfl (Pick.tailM (Es := [_, _, _, _, _]) (Pick.refl _)) (Res.tmp rfl) (Res.tmp rfl) (Pick.cons tk3 (Pick.cons tk3 Pick.nil)) ⟨ob59, n57, c58, j60, ob69, n70, c71, j72, rfl, rfl, hn61, hc62, hj63, hz64, hn73, hc74, hj75, hz76⟩
/-- acequia/acequialaw01.Four -/
theorem w_acequialaw01_Four (w : World) {r0 : Net} (H : m_acequialaw01_Four = some r0) : Fnc Try.prog 74 #[] w [] (fun v N => ∃ (ob_0 : Option Nat) (n_0 : Nat) (c_0 : Nat) (j_0 : List Value), v = .agg #[.int .i64 r0.N, .int .i64 r0.S, .int .i64 r0.T, .slice (sb ob_0) n_0 c_0] ∧ N = [(ob_0, .cells (arr arcC r0.Arcs j_0).toArray 67 (0, 0))] ∧ r0.Arcs.length = n_0 ∧ n_0 ≤ c_0 ∧ j_0.length = (c_0 - n_0) * 3 ∧ (ob_0 = none → c_0 = 0)) := by
  unfold m_acequialaw01_Four at H
  refine Fnc.enter (vs := []) Try.func74 rfl rfl (Inv.refl w) ?_
  refine T.seq ?_
  refine T.regionL (ll := [0]) rfl ?_
  refine TO.allocA rfl rfl rfl TWBS7a.z24 ?_; intro b1
  refine TO.done ?_
  refine X.seq_normal ?_
  refine T.seq ?_
  refine T.regionL (ll := [0, 1, 2, 3, 4, 5, 6, 7]) rfl ?_
  refine TO.buildS (t := 67) [.int .i64 0, .int .i64 0, .int .i64 0] [0, 1, 2] rfl rfl rfl rfl (by simp only [setAll, setCells, Value.cells, List.toList_toArray, List.getD_cons_zero, List.getD_cons_succ, List.set_cons_zero, List.set_cons_succ]; rfl) (by kernel_rfl) ?_
  refine TO.buildS (t := 67) [.int .i64 0, .int .i64 0, .int .i64 0] [0, 1, 2] rfl rfl rfl rfl (by simp only [setAll, setCells, Value.cells, List.toList_toArray, List.getD_cons_zero, List.getD_cons_succ, List.set_cons_zero, List.set_cons_succ]; rfl) (by kernel_rfl) ?_
  refine TO.buildS (t := 67) [.int .i64 0, .int .i64 0, .int .i64 0] [0, 1, 2] rfl rfl rfl rfl (by simp only [setAll, setCells, Value.cells, List.toList_toArray, List.getD_cons_zero, List.getD_cons_succ, List.set_cons_zero, List.set_cons_succ]; rfl) (by kernel_rfl) ?_
  refine TO.buildS (t := 67) [.int .i64 0, .int .i64 0, .int .i64 0] [0, 1, 2] rfl rfl rfl rfl (by simp only [setAll, setCells, Value.cells, List.toList_toArray, List.getD_cons_zero, List.getD_cons_succ, List.set_cons_zero, List.set_cons_succ]; rfl) (by kernel_rfl) ?_
  refine TO.buildS (t := 67) [.int .i64 0, .int .i64 0, .int .i64 0] [0, 1, 2] rfl rfl rfl rfl (by simp only [setAll, setCells, Value.cells, List.toList_toArray, List.getD_cons_zero, List.getD_cons_succ, List.set_cons_zero, List.set_cons_succ]; rfl) (by kernel_rfl) ?_
  refine TO.buildSliceS [.int .i64 0, .int .i64 0, .int .i64 0, .int .i64 0, .int .i64 0, .int .i64 0, .int .i64 0, .int .i64 0, .int .i64 0, .int .i64 0, .int .i64 0, .int .i64 0, .int .i64 0, .int .i64 0, .int .i64 0] [0, 3, 6, 9, 12] rfl rfl rfl rfl TWBS7a.l22 TWBS7a.n67 TWBS7a.z67 rfl rfl (by simp only [setAll, setCells, Value.cells, List.toList_toArray, List.getD_cons_zero, List.getD_cons_succ, List.set_cons_zero, List.set_cons_succ]; rfl) (by kernel_rfl) ?_; intro b3
  refine TO.buildS (t := 24) [.int .i64 0, .int .i64 0, .int .i64 0, .slice none 0 0] [0, 1, 2, 3] rfl rfl rfl rfl (by simp only [setAll, setCells, Value.cells, List.toList_toArray, List.getD_cons_zero, List.getD_cons_succ, List.set_cons_zero, List.set_cons_succ]; rfl) (by kernel_rfl) ?_
  refine TO.storeA rfl rfl rfl rfl tk1 TWBS7a.n24 rfl rfl rfl ?_
  refine TO.done ?_
  refine X.seq_normal ?_
  refine T.ret ?_
  obtain rfl := ret1 H
  exact X.ret1 rfl rfl rfl rfl (Res.cellA rfl TWBS7a.a24 mm0 rfl) (Pick.cons tk1 Pick.nil) ⟨(some b3), 5, 5, ([]), rfl, rfl, rfl, (Nat.le_refl _), (zeroJ _ _), someZ⟩
/-- acequia/acequiaref01.vertex -/
theorem w_acequiaref01_vertex {n0 : Net} {v1 : Int} {n0f3_b : Option Addr} {n0f3_n : Nat} {n0f3_c : Nat} (w : World) (h_n0f3 : RS w [] arcC 3 n0f3_b n0f3_n n0f3_c n0.Arcs) {r0 : Bool} (H : m_acequiaref01_vertex n0 v1 = some r0) : Fnc Try.prog 95 #[.agg #[.int .i64 n0.N, .int .i64 n0.S, .int .i64 n0.T, .slice n0f3_b n0f3_n n0f3_c], .int .i64 v1] w [] (fun v N => v = .bool r0 ∧ N = []) := by
  unfold m_acequiaref01_vertex at H
  refine Fnc.enter (vs := [.agg #[.int .i64 n0.N, .int .i64 n0.S, .int .i64 n0.T, .slice n0f3_b n0f3_n n0f3_c], .int .i64 v1]) Try.func95 rfl rfl (Inv.refl w) ?_
  refine T.seq ?_
  refine T.regionL (ll := [0, 1]) rfl ?_
  refine TO.boxA rfl rfl rfl rfl ?_; intro b1
  refine TO.assign rfl rfl rfl rfl ?_
  refine TO.done ?_
  refine X.seq_normal ?_
  refine T.seq ?_
  rcases ite_some H with ⟨g3, H⟩ | ⟨g3, H⟩
  ·
    refine T.regionL (ll := [0, 1, 2, 3, 4, 5, 6, 7, 8]) rfl ?_
    refine TO.move rfl rfl rfl rfl ?_
    refine TO.bin rfl rfl rfl rfl rfl rfl ?_
    refine TO.move rfl rfl rfl rfl ?_
    refine TO.decB (t := 7) (b' := true) rfl (decide_eq_true g3) ?_
    refine TO.move rfl rfl rfl rfl ?_
    refine TO.fieldAddr0 rfl rfl rfl rfl TWBS7a.f24_0 ?_
    refine TO.load1 rfl rfl rfl rfl TWBS7a.s3 mm0 rfl ?_
    refine TO.bin rfl rfl rfl rfl rfl rfl ?_
    refine TO.pickT rfl rfl rfl rfl rfl ?_
    refine TO.assign rfl rfl rfl rfl ?_
    refine TO.done ?_
    refine X.seq_normal ?_
    refine T.trim (AllF.cons (t := 4) rfl AllF.nil) ?_
    refine T.ret ?_
    obtain rfl := ret1 H
    exact X.ret1 rfl rfl rfl rfl (Res.tmp rfl) Pick.nil ⟨rfl, rfl⟩
  ·
    refine T.regionL (ll := [0, 1, 2, 3, 4, 5, 6, 7, 8]) rfl ?_
    refine TO.move rfl rfl rfl rfl ?_
    refine TO.bin rfl rfl rfl rfl rfl rfl ?_
    refine TO.move rfl rfl rfl rfl ?_
    refine TO.decB (t := 7) (b' := false) rfl (decide_eq_false g3) ?_
    refine TO.shut rfl rfl rfl rfl ?_
    refine TO.shut rfl rfl rfl rfl ?_
    refine TO.shut rfl rfl rfl rfl ?_
    refine TO.shut rfl rfl rfl rfl ?_
    refine TO.pickF rfl rfl rfl rfl rfl ?_
    refine TO.assign rfl rfl rfl rfl ?_
    refine TO.done ?_
    refine X.seq_normal ?_
    refine T.trim (AllF.cons (t := 4) rfl AllF.nil) ?_
    refine T.ret ?_
    obtain rfl := ret1 H
    exact X.ret1 rfl rfl rfl rfl (Res.tmp rfl) Pick.nil ⟨rfl, rfl⟩
/-- acequia/acequiaref01.Sum -/
theorem w_acequiaref01_Sum {n0 : Net} {n0f3_b : Option Addr} {n0f3_n : Nat} {n0f3_c : Nat} (w : World) (h_n0f3 : RS w [] arcC 3 n0f3_b n0f3_n n0f3_c n0.Arcs) {r0 : Int} {r1 : Bool} (H : m_acequiaref01_Sum n0 = some (r0, r1)) : Fnc Try.prog 96 #[.agg #[.int .i64 n0.N, .int .i64 n0.S, .int .i64 n0.T, .slice n0f3_b n0f3_n n0f3_c]] w [] (fun v N => v = .tuple #[.int .i64 r0, .bool r1] ∧ N = []) := by
  unfold m_acequiaref01_Sum at H
  refine Fnc.enter (vs := [.agg #[.int .i64 n0.N, .int .i64 n0.S, .int .i64 n0.T, .slice n0f3_b n0f3_n n0f3_c]]) Try.func96 rfl rfl (Inv.refl w) ?_
  refine T.seq ?_
  refine T.regionL (ll := [0, 1, 2]) rfl ?_
  refine TO.boxA rfl rfl rfl rfl ?_; intro b1
  refine TO.assign rfl rfl rfl rfl ?_
  refine TO.assign rfl rfl rfl rfl ?_
  refine TO.done ?_
  refine X.seq_normal ?_
  refine T.seq ?_
  refine T.regionL (ll := [0]) rfl ?_
  refine TO.assign rfl rfl rfl rfl ?_
  refine TO.done ?_
  refine X.seq_normal ?_
  refine T.seq ?_
  refine T.seq ?_
  refine T.regionL (ll := [0]) rfl ?_
  refine TO.assign rfl rfl rfl rfl ?_
  refine TO.done ?_
  refine X.seq_normal ?_
  refine T.meetSE1 (fun (sum13 : Int) => m_acequiaref01_Sum_j3 sum13 = some (r0, r1)) (fun (sum13 : Int) => [(4, .int .i64 sum13)]) (fun (sum13 : Int) => []) ?_ ?_
  ·
    refine T.block ?_
    obtain ⟨o_1, e_1, K_1⟩ := bd_some H
    refine T.loopE3 (fun (m_1 : Nat) (sum3 : Int) (i4 : Int) => loopM (fun s => m_acequiaref01_Sum_s1 n0 s.1 s.2) m_1 (sum3, i4) = some o_1) (fun (m_1 : Nat) (sum3 : Int) (i4 : Int) => [(1, .pointer (some ⟨b1, 0, none⟩)), (4, .int .i64 sum3), (5, .int .i64 i4)]) (fun (m_1 : Nat) (sum3 : Int) (i4 : Int) => [(some b1, .cells #[.int .i64 n0.N, .int .i64 n0.S, .int .i64 n0.T, .slice n0f3_b n0f3_n n0f3_c] 24 (0, 0))]) (fun (m_1 : Nat) (sum3 : Int) (i4 : Int) => m_1) FUEL 0 0 e_1 (AllF.cons rfl (AllF.cons rfl (AllF.cons rfl AllF.nil))) (Pick.cons tk0 Pick.nil) ?_
    rintro m_1 sum3 i4 H
    obtain ⟨n_1, r_1, rfl, H, C_1⟩ := loopM_some H
    have H : m_acequiaref01_Sum_s1 n0 sum3 i4 = some r_1 := H
    unfold m_acequiaref01_Sum_s1 at H
    refine T.seq ?_
    refine T.seq ?_
    refine T.regionL (ll := [0, 1, 2, 3, 4]) rfl ?_
    refine TO.move rfl rfl rfl rfl ?_
    refine TO.fieldAddr0 rfl rfl rfl rfl TWBS7a.f24_3 ?_
    refine TO.load1 rfl rfl rfl rfl TWBS7a.s22 mm0 rfl ?_
    refine TO.lenX (xs := n0.Arcs) h_n0f3.len rfl rfl rfl rfl rfl TWBS7a.l22 ?_
    refine TO.bin rfl rfl rfl rfl rfl rfl ?_
    refine TO.done ?_
    refine X.seq_normal ?_
    rcases ite_some H with ⟨g5, H⟩ | ⟨g5, H⟩
    ·
      refine T.condPT rfl g5 ?_
      refine T.skip ?_
      refine X.seq_normal ?_
      refine T.seq ?_
      refine T.block ?_
      refine T.seq ?_
      obtain ⟨g6, H⟩ := gd_some H
      refine T.regionL (ll := [0, 1, 2, 3, 4, 5, 6]) rfl ?_
      refine TO.fieldAddr0 rfl rfl rfl rfl TWBS7a.f24_3 ?_
      refine TO.load1 rfl rfl rfl rfl TWBS7a.s22 mm0 rfl ?_
      refine TO.move rfl rfl rfl rfl ?_
      refine TO.ixR h_n0f3 g6 rfl rfl rfl rfl rfl TWBS7a.l22 TWBS7a.n67 ?_
      refine TO.faR rfl rfl rfl rfl TWBS7a.f67_2 ?_
      refine TO.ldFR (v := .int .i64 ((n0.Arcs.getD i4.toNat default).cap)) default h_n0f3 g6 rfl rfl rfl rfl rfl TWBS7a.s2 ?_
      refine TO.assign rfl rfl rfl rfl ?_
      refine TO.done ?_
      refine X.seq_normal ?_
      refine T.trim (AllF.cons (t := 1) rfl (AllF.cons (t := 4) rfl (AllF.cons (t := 5) rfl (AllF.cons (t := 6) rfl AllF.nil)))) ?_
      refine T.seq ?_
      refine T.seq ?_
      refine T.meetSE1 (fun (x9 : Bool) => m_acequiaref01_Sum_j2 n0 sum3 i4 x9 = some r_1) (fun (x9 : Bool) => [(1, .pointer (some ⟨b1, 0, none⟩)), (4, .int .i64 sum3), (5, .int .i64 i4), (6, .int .i64 ((n0.Arcs.getD i4.toNat default).cap)), (27, .bool x9)]) (fun (x9 : Bool) => [(some b1, .cells #[.int .i64 n0.N, .int .i64 n0.S, .int .i64 n0.T, .slice n0f3_b n0f3_n n0f3_c] 24 (0, 0))]) ?_ ?_
      ·
        rcases ite_some H with ⟨g7, H⟩ | ⟨g7, H⟩
        ·
          refine T.regionL (ll := [0, 1, 2, 3, 4, 5, 6, 7]) rfl ?_
          refine TO.move rfl rfl rfl rfl ?_
          refine TO.bin rfl rfl rfl rfl rfl rfl ?_
          refine TO.move rfl rfl rfl rfl ?_
          refine TO.decB (t := 22) (b' := true) rfl (decide_eq_true g7) ?_
          refine TO.shut rfl rfl rfl rfl ?_
          refine TO.shut rfl rfl rfl rfl ?_
          refine TO.shut rfl rfl rfl rfl ?_
          refine TO.shut rfl rfl rfl rfl ?_
          refine TO.pickT rfl rfl rfl rfl rfl ?_
          refine TO.done ?_
          exact X.metE1 true H (AllF.cons rfl (AllF.cons rfl (AllF.cons rfl (AllF.cons rfl (AllF.cons rfl AllF.nil))))) (Pick.cons tk0 Pick.nil)
        ·
          obtain ⟨g8, H⟩ := gd_some H
          refine T.regionL (ll := [0, 1, 2, 3, 4, 5, 6, 7]) rfl ?_
          refine TO.move rfl rfl rfl rfl ?_
          refine TO.bin rfl rfl rfl rfl rfl rfl ?_
          refine TO.move rfl rfl rfl rfl ?_
          refine TO.decB (t := 22) (b' := false) rfl (decide_eq_false g7) ?_
          refine TO.move rfl rfl rfl rfl ?_
          refine TO.move rfl rfl rfl rfl ?_
          refine TO.subG g8 rfl rfl rfl rfl rfl ?_
          refine TO.bin rfl rfl rfl rfl rfl rfl ?_
          refine TO.pickF rfl rfl rfl rfl rfl ?_
          refine TO.done ?_
          exact X.metE1 (decide ((4611686018427387904 - sum3) < ((n0.Arcs.getD i4.toNat default).cap))) H (AllF.cons rfl (AllF.cons rfl (AllF.cons rfl (AllF.cons rfl (AllF.cons rfl AllF.nil))))) (Pick.cons tk0 Pick.nil)
      · rintro x9 H
        unfold m_acequiaref01_Sum_j2 at H
        rcases ite_some H with ⟨g10, H⟩ | ⟨g10, H⟩
        ·
          refine T.condT rfl g10 ?_
          refine T.seq ?_
          refine T.regionL (ll := [0, 1]) rfl ?_
          refine TO.assign rfl rfl rfl rfl ?_
          refine TO.assign rfl rfl rfl rfl ?_
          refine TO.done ?_
          refine X.seq_normal ?_
          refine T.ret ?_
          refine X.then_ret ?_
          refine X.block_ret ?_
          refine X.then_ret ?_
          have H := loop_exitE H C_1 ▸ K_1
          refine X.then_ret ?_
          refine X.block_ret ?_
          refine X.then_ret ?_
          obtain ⟨rfl, rfl⟩ := ret2 H
          exact X.ret2 rfl rfl rfl rfl (Res.tmp rfl) (Res.tmp rfl) Pick.nil ⟨rfl, rfl⟩
        ·
          refine T.condF rfl (Bool.eq_false_iff.2 g10) ?_
          refine T.skip ?_
          refine X.seq_normal ?_
          obtain ⟨g11, H⟩ := gd_some H
          refine T.regionL (ll := [0, 1, 2, 3]) rfl ?_
          refine TO.move rfl rfl rfl rfl ?_
          refine TO.move rfl rfl rfl rfl ?_
          refine TO.addG g11 rfl rfl rfl rfl rfl ?_
          refine TO.assign rfl rfl rfl rfl ?_
          refine TO.done ?_
          refine X.block_normal ?_
          refine X.seq_normal ?_
          obtain ⟨g12, H⟩ := gd_some H
          refine T.regionL (ll := [0, 1, 2]) rfl ?_
          refine TO.move rfl rfl rfl rfl ?_
          refine TO.addG g12 rfl rfl rfl rfl rfl ?_
          refine TO.assign rfl rfl rfl rfl ?_
          refine TO.done ?_
          have H := loop_next H C_1
          exact X.againE3 n_1 (sum3 + ((n0.Arcs.getD i4.toNat default).cap)) (i4 + 1) H (Nat.lt_succ_self _) (AllF.cons rfl (AllF.cons rfl (AllF.cons rfl AllF.nil))) (Pick.cons tk0 Pick.nil)
    ·
      refine T.condPF rfl g5 ?_
      refine T.exit ?_
      refine X.then_exit ?_
      have H := loop_exitE H C_1 ▸ K_1
      refine X.then_exit ?_
      refine X.block_here ?_
      exact X.metE1 sum3 H (AllF.cons rfl AllF.nil) Pick.nil
  · rintro sum13 H
    unfold m_acequiaref01_Sum_j3 at H
    refine T.seq ?_
    refine T.regionL (ll := [0, 1, 2]) rfl ?_
    refine TO.move rfl rfl rfl rfl ?_
    refine TO.assign rfl rfl rfl rfl ?_
    refine TO.assign rfl rfl rfl rfl ?_
    refine TO.done ?_
    refine X.seq_normal ?_
    refine T.ret ?_
    obtain ⟨rfl, rfl⟩ := ret2 H
    exact X.ret2 rfl rfl rfl rfl (Res.tmp rfl) (Res.tmp rfl) Pick.nil ⟨rfl, rfl⟩
/-- acequia/acequiaref01.Check -/
theorem w_acequiaref01_Check {n0 : Net} {n0f3_b : Option Addr} {n0f3_n : Nat} {n0f3_c : Nat} (w : World) (h_n0f3 : RS w [] arcC 3 n0f3_b n0f3_n n0f3_c n0.Arcs) {r0 : Int} (H : m_acequiaref01_Check n0 = some r0) : Fnc Try.prog 56 #[.agg #[.int .i64 n0.N, .int .i64 n0.S, .int .i64 n0.T, .slice n0f3_b n0f3_n n0f3_c]] w [] (fun v N => v = .int .i64 r0 ∧ N = []) := by
  unfold m_acequiaref01_Check at H
  refine Fnc.enter (vs := [.agg #[.int .i64 n0.N, .int .i64 n0.S, .int .i64 n0.T, .slice n0f3_b n0f3_n n0f3_c]]) Try.func56 rfl rfl (Inv.refl w) ?_
  refine T.seq ?_
  refine T.regionL (ll := [0, 1]) rfl ?_
  refine TO.boxA rfl rfl rfl rfl ?_; intro b1
  refine TO.assign rfl rfl rfl rfl ?_
  refine TO.done ?_
  refine X.seq_normal ?_
  refine T.seq ?_
  refine T.seq ?_
  rcases ite_some H with ⟨g3, H⟩ | ⟨g3, H⟩
  ·
    refine T.regionL (ll := [0, 1, 2, 3, 4, 5, 6, 7]) rfl ?_
    refine TO.fieldAddr0 rfl rfl rfl rfl TWBS7a.f24_0 ?_
    refine TO.load1 rfl rfl rfl rfl TWBS7a.s3 mm0 rfl ?_
    refine TO.bin rfl rfl rfl rfl rfl rfl ?_
    refine TO.move rfl rfl rfl rfl ?_
    refine TO.decB (t := 11) (b' := true) rfl (decide_eq_true g3) ?_
    refine TO.shut rfl rfl rfl rfl ?_
    refine TO.shut rfl rfl rfl rfl ?_
    refine TO.shut rfl rfl rfl rfl ?_
    refine TO.pickT rfl rfl rfl rfl rfl ?_
    refine TO.done ?_
    refine X.seq_normal ?_
    refine T.trim (AllF.cons (t := 1) rfl (AllF.cons (t := 15) rfl AllF.nil)) ?_
    refine T.condT rfl rfl ?_
    refine T.seq ?_
    refine T.regionL (ll := [0]) rfl ?_
    refine TO.assign rfl rfl rfl rfl ?_
    refine TO.done ?_
    refine X.seq_normal ?_
    refine T.ret ?_
    refine X.then_ret ?_
    obtain rfl := ret1 H
    exact X.ret1 rfl rfl rfl rfl (Res.tmp rfl) Pick.nil ⟨rfl, rfl⟩
  ·
    refine T.regionL (ll := [0, 1, 2, 3, 4, 5, 6, 7]) rfl ?_
    refine TO.fieldAddr0 rfl rfl rfl rfl TWBS7a.f24_0 ?_
    refine TO.load1 rfl rfl rfl rfl TWBS7a.s3 mm0 rfl ?_
    refine TO.bin rfl rfl rfl rfl rfl rfl ?_
    refine TO.move rfl rfl rfl rfl ?_
    refine TO.decB (t := 11) (b' := false) rfl (decide_eq_false g3) ?_
    refine TO.fieldAddr0 rfl rfl rfl rfl TWBS7a.f24_0 ?_
    refine TO.load1 rfl rfl rfl rfl TWBS7a.s3 mm0 rfl ?_
    refine TO.bin rfl rfl rfl rfl rfl rfl ?_
    refine TO.pickF rfl rfl rfl rfl rfl ?_
    refine TO.done ?_
    refine X.seq_normal ?_
    refine T.trim (AllF.cons (t := 1) rfl (AllF.cons (t := 15) rfl AllF.nil)) ?_
    rcases ite_some H with ⟨g4, H⟩ | ⟨g4, H⟩
    ·
      refine T.condPT rfl g4 ?_
      refine T.seq ?_
      refine T.regionL (ll := [0]) rfl ?_
      refine TO.assign rfl rfl rfl rfl ?_
      refine TO.done ?_
      refine X.seq_normal ?_
      refine T.ret ?_
      refine X.then_ret ?_
      obtain rfl := ret1 H
      exact X.ret1 rfl rfl rfl rfl (Res.tmp rfl) Pick.nil ⟨rfl, rfl⟩
    ·
      refine T.condPF rfl g4 ?_
      refine T.skip ?_
      refine X.seq_normal ?_
      refine T.seq ?_
      refine T.seq ?_
      refine T.regionL (ll := [0, 1, 2, 3]) rfl ?_
      refine TO.fieldAddr0 rfl rfl rfl rfl TWBS7a.f24_3 ?_
      refine TO.load1 rfl rfl rfl rfl TWBS7a.s22 mm0 rfl ?_
      refine TO.lenX (xs := n0.Arcs) h_n0f3.len rfl rfl rfl rfl rfl TWBS7a.l22 ?_
      refine TO.bin rfl rfl rfl rfl rfl rfl ?_
      refine TO.done ?_
      refine X.seq_normal ?_
      rcases ite_some H with ⟨g5, H⟩ | ⟨g5, H⟩
      ·
        refine T.condPT rfl g5 ?_
        refine T.seq ?_
        refine T.regionL (ll := [0]) rfl ?_
        refine TO.assign rfl rfl rfl rfl ?_
        refine TO.done ?_
        refine X.seq_normal ?_
        refine T.ret ?_
        refine X.then_ret ?_
        obtain rfl := ret1 H
        exact X.ret1 rfl rfl rfl rfl (Res.tmp rfl) Pick.nil ⟨rfl, rfl⟩
      ·
        refine T.condPF rfl g5 ?_
        refine T.skip ?_
        refine X.seq_normal ?_
        refine T.seq ?_
        refine T.seq ?_
        obtain ⟨r6, e7, H⟩ := bd_some H
        rcases ite_some H with ⟨g8, H⟩ | ⟨g8, H⟩
        ·
          refine T.regionL (ll := [0, 1, 2, 3, 4, 5, 6, 7, 8, 9, 10, 11, 12, 13, 14, 15, 16, 17, 18]) rfl ?_
          refine TO.loadA rfl rfl rfl rfl TWBS7a.a24 mm0 rfl ?_
          refine TO.fieldAddr0 rfl rfl rfl rfl TWBS7a.f24_1 ?_
          refine TO.load1 rfl rfl rfl rfl TWBS7a.s3 mm0 rfl ?_
          refine TO.callX TWBS7a.c95 rfl rfl rfl rfl (fun wc hwc => w_acequiaref01_vertex (n0 := n0) (v1 := n0.S) wc (h_n0f3.mono hwc) e7) ?_
          rintro _ _ ⟨rfl, rfl⟩
          refine TO.not rfl rfl rfl rfl ?_
          refine TO.move rfl rfl rfl rfl ?_
          refine TO.decB (t := 25) (b' := true) rfl g8 ?_
          refine TO.shut rfl rfl rfl rfl ?_
          refine TO.shut rfl rfl rfl rfl ?_
          refine TO.shut rfl rfl rfl rfl ?_
          refine TO.shut rfl rfl rfl rfl ?_
          refine TO.shut rfl rfl rfl rfl ?_
          refine TO.pickT rfl rfl rfl rfl rfl ?_
          refine TO.move rfl rfl rfl rfl ?_
          refine TO.shut rfl rfl rfl rfl ?_
          refine TO.shut rfl rfl rfl rfl ?_
          refine TO.shut rfl rfl rfl rfl ?_
          refine TO.shut rfl rfl rfl rfl ?_
          refine TO.shut rfl rfl rfl rfl ?_
          refine TO.pickT rfl rfl rfl rfl rfl ?_
          refine TO.done ?_
          refine X.seq_normal ?_
          refine T.trim (AllF.cons (t := 1) rfl (AllF.cons (t := 38) rfl AllF.nil)) ?_
          refine T.condT rfl rfl ?_
          refine T.seq ?_
          refine T.regionL (ll := [0]) rfl ?_
          refine TO.assign rfl rfl rfl rfl ?_
          refine TO.done ?_
          refine X.seq_normal ?_
          refine T.ret ?_
          refine X.then_ret ?_
          obtain rfl := ret1 H
          exact X.ret1 rfl rfl rfl rfl (Res.tmp rfl) Pick.nil ⟨rfl, rfl⟩
        ·
          obtain ⟨r9, e10, H⟩ := bd_some H
          rcases ite_some H with ⟨g11, H⟩ | ⟨g11, H⟩
          ·
            refine T.regionL (ll := [0, 1, 2, 3, 4, 5, 6, 7, 8, 9, 10, 11, 12, 13, 14, 15, 16, 17, 18]) rfl ?_
            refine TO.loadA rfl rfl rfl rfl TWBS7a.a24 mm0 rfl ?_
            refine TO.fieldAddr0 rfl rfl rfl rfl TWBS7a.f24_1 ?_
            refine TO.load1 rfl rfl rfl rfl TWBS7a.s3 mm0 rfl ?_
            refine TO.callX TWBS7a.c95 rfl rfl rfl rfl (fun wc hwc => w_acequiaref01_vertex (n0 := n0) (v1 := n0.S) wc (h_n0f3.mono hwc) e7) ?_
            rintro _ _ ⟨rfl, rfl⟩
            refine TO.not rfl rfl rfl rfl ?_
            refine TO.move rfl rfl rfl rfl ?_
            refine TO.decB (t := 25) (b' := false) rfl (Bool.eq_false_iff.2 g8) ?_
            refine TO.loadA rfl rfl rfl rfl TWBS7a.a24 mm0 rfl ?_
            refine TO.fieldAddr0 rfl rfl rfl rfl TWBS7a.f24_2 ?_
            refine TO.load1 rfl rfl rfl rfl TWBS7a.s3 mm0 rfl ?_
            refine TO.callX TWBS7a.c95 rfl rfl rfl rfl (fun wc hwc => w_acequiaref01_vertex (n0 := n0) (v1 := n0.T) wc (h_n0f3.mono hwc) e10) ?_
            rintro _ _ ⟨rfl, rfl⟩
            refine TO.not rfl rfl rfl rfl ?_
            refine TO.pickF rfl rfl rfl rfl rfl ?_
            refine TO.move rfl rfl rfl rfl ?_
            refine TO.decB (t := 32) (b' := true) rfl g11 ?_
            refine TO.shut rfl rfl rfl rfl ?_
            refine TO.shut rfl rfl rfl rfl ?_
            refine TO.shut rfl rfl rfl rfl ?_
            refine TO.shut rfl rfl rfl rfl ?_
            refine TO.shut rfl rfl rfl rfl ?_
            refine TO.pickT rfl rfl rfl rfl rfl ?_
            refine TO.done ?_
            refine X.seq_normal ?_
            refine T.trim (AllF.cons (t := 1) rfl (AllF.cons (t := 38) rfl AllF.nil)) ?_
            refine T.condT rfl rfl ?_
            refine T.seq ?_
            refine T.regionL (ll := [0]) rfl ?_
            refine TO.assign rfl rfl rfl rfl ?_
            refine TO.done ?_
            refine X.seq_normal ?_
            refine T.ret ?_
            refine X.then_ret ?_
            obtain rfl := ret1 H
            exact X.ret1 rfl rfl rfl rfl (Res.tmp rfl) Pick.nil ⟨rfl, rfl⟩
          ·
            refine T.regionL (ll := [0, 1, 2, 3, 4, 5, 6, 7, 8, 9, 10, 11, 12, 13, 14, 15, 16, 17, 18]) rfl ?_
            refine TO.loadA rfl rfl rfl rfl TWBS7a.a24 mm0 rfl ?_
            refine TO.fieldAddr0 rfl rfl rfl rfl TWBS7a.f24_1 ?_
            refine TO.load1 rfl rfl rfl rfl TWBS7a.s3 mm0 rfl ?_
            refine TO.callX TWBS7a.c95 rfl rfl rfl rfl (fun wc hwc => w_acequiaref01_vertex (n0 := n0) (v1 := n0.S) wc (h_n0f3.mono hwc) e7) ?_
            rintro _ _ ⟨rfl, rfl⟩
            refine TO.not rfl rfl rfl rfl ?_
            refine TO.move rfl rfl rfl rfl ?_
            refine TO.decB (t := 25) (b' := false) rfl (Bool.eq_false_iff.2 g8) ?_
            refine TO.loadA rfl rfl rfl rfl TWBS7a.a24 mm0 rfl ?_
            refine TO.fieldAddr0 rfl rfl rfl rfl TWBS7a.f24_2 ?_
            refine TO.load1 rfl rfl rfl rfl TWBS7a.s3 mm0 rfl ?_
            refine TO.callX TWBS7a.c95 rfl rfl rfl rfl (fun wc hwc => w_acequiaref01_vertex (n0 := n0) (v1 := n0.T) wc (h_n0f3.mono hwc) e10) ?_
            rintro _ _ ⟨rfl, rfl⟩
            refine TO.not rfl rfl rfl rfl ?_
            refine TO.pickF rfl rfl rfl rfl rfl ?_
            refine TO.move rfl rfl rfl rfl ?_
            refine TO.decB (t := 32) (b' := false) rfl (Bool.eq_false_iff.2 g11) ?_
            refine TO.fieldAddr0 rfl rfl rfl rfl TWBS7a.f24_1 ?_
            refine TO.load1 rfl rfl rfl rfl TWBS7a.s3 mm0 rfl ?_
            refine TO.fieldAddr0 rfl rfl rfl rfl TWBS7a.f24_2 ?_
            refine TO.load1 rfl rfl rfl rfl TWBS7a.s3 mm0 rfl ?_
            refine TO.bin rfl rfl rfl rfl rfl rfl ?_
            refine TO.pickF rfl rfl rfl rfl rfl ?_
            refine TO.done ?_
            refine X.seq_normal ?_
            refine T.trim (AllF.cons (t := 1) rfl (AllF.cons (t := 38) rfl AllF.nil)) ?_
            rcases ite_some H with ⟨g12, H⟩ | ⟨g12, H⟩
            ·
              refine T.condPT rfl g12 ?_
              refine T.seq ?_
              refine T.regionL (ll := [0]) rfl ?_
              refine TO.assign rfl rfl rfl rfl ?_
              refine TO.done ?_
              refine X.seq_normal ?_
              refine T.ret ?_
              refine X.then_ret ?_
              obtain rfl := ret1 H
              exact X.ret1 rfl rfl rfl rfl (Res.tmp rfl) Pick.nil ⟨rfl, rfl⟩
            ·
              refine T.condPF rfl g12 ?_
              refine T.skip ?_
              refine X.seq_normal ?_
              refine T.seq ?_
              refine T.regionL (ll := [0]) rfl ?_
              refine TO.assign rfl rfl rfl rfl ?_
              refine TO.done ?_
              refine X.seq_normal ?_
              refine T.seq ?_
              refine T.seq ?_
              refine T.regionL (ll := [0]) rfl ?_
              refine TO.assign rfl rfl rfl rfl ?_
              refine TO.done ?_
              refine X.seq_normal ?_
              refine T.meetSE1 (fun (below28 : Bool) => m_acequiaref01_Check_j2 n0 below28 = some r0) (fun (below28 : Bool) => [(1, .pointer (some ⟨b1, 0, none⟩)), (3, .bool below28)]) (fun (below28 : Bool) => [(some b1, .cells #[.int .i64 n0.N, .int .i64 n0.S, .int .i64 n0.T, .slice n0f3_b n0f3_n n0f3_c] 24 (0, 0))]) ?_ ?_
              ·
                refine T.block ?_
                obtain ⟨o_1, e_1, K_1⟩ := bd_some H
                refine T.loopE3 (fun (m_1 : Nat) (below13 : Bool) (i14 : Int) => loopM (fun s => m_acequiaref01_Check_s1 n0 s.1 s.2) m_1 (below13, i14) = some o_1) (fun (m_1 : Nat) (below13 : Bool) (i14 : Int) => [(1, .pointer (some ⟨b1, 0, none⟩)), (3, .bool below13), (4, .int .i64 i14)]) (fun (m_1 : Nat) (below13 : Bool) (i14 : Int) => [(some b1, .cells #[.int .i64 n0.N, .int .i64 n0.S, .int .i64 n0.T, .slice n0f3_b n0f3_n n0f3_c] 24 (0, 0))]) (fun (m_1 : Nat) (below13 : Bool) (i14 : Int) => m_1) FUEL false 0 e_1 (AllF.cons rfl (AllF.cons rfl (AllF.cons rfl AllF.nil))) (Pick.cons tk0 Pick.nil) ?_
                rintro m_1 below13 i14 H
                obtain ⟨n_1, r_1, rfl, H, C_1⟩ := loopM_some H
                have H : m_acequiaref01_Check_s1 n0 below13 i14 = some r_1 := H
                unfold m_acequiaref01_Check_s1 at H
                refine T.seq ?_
                refine T.seq ?_
                refine T.regionL (ll := [0, 1, 2, 3, 4]) rfl ?_
                refine TO.move rfl rfl rfl rfl ?_
                refine TO.fieldAddr0 rfl rfl rfl rfl TWBS7a.f24_3 ?_
                refine TO.load1 rfl rfl rfl rfl TWBS7a.s22 mm0 rfl ?_
                refine TO.lenX (xs := n0.Arcs) h_n0f3.len rfl rfl rfl rfl rfl TWBS7a.l22 ?_
                refine TO.bin rfl rfl rfl rfl rfl rfl ?_
                refine TO.done ?_
                refine X.seq_normal ?_
                rcases ite_some H with ⟨g15, H⟩ | ⟨g15, H⟩
                ·
                  refine T.condPT rfl g15 ?_
                  refine T.skip ?_
                  refine X.seq_normal ?_
                  refine T.seq ?_
                  refine T.block ?_
                  refine T.seq ?_
                  obtain ⟨g16, H⟩ := gd_some H
                  refine T.regionL (ll := [0, 1, 2, 3, 4, 5, 6]) rfl ?_
                  refine TO.fieldAddr0 rfl rfl rfl rfl TWBS7a.f24_3 ?_
                  refine TO.load1 rfl rfl rfl rfl TWBS7a.s22 mm0 rfl ?_
                  refine TO.move rfl rfl rfl rfl ?_
                  refine TO.ixR h_n0f3 g16 rfl rfl rfl rfl rfl TWBS7a.l22 TWBS7a.n67 ?_
                  refine TO.ldSR (cs := [.int .i64 ((n0.Arcs.getD i14.toNat default).fr), .int .i64 ((n0.Arcs.getD i14.toNat default).to), .int .i64 ((n0.Arcs.getD i14.toNat default).cap)]) default h_n0f3 g16 rfl rfl rfl rfl rfl TWBS7a.a67 ?_
                  refine TO.allocA rfl rfl rfl TWBS7a.z67 ?_; intro b17
                  refine TO.storeA rfl rfl rfl rfl tk0 TWBS7a.n67 rfl rfl rfl ?_
                  refine TO.done ?_
                  refine X.seq_normal ?_
                  refine T.trim (AllF.cons (t := 1) rfl (AllF.cons (t := 3) rfl (AllF.cons (t := 4) rfl (AllF.cons (t := 5) rfl AllF.nil)))) ?_
                  refine T.seq ?_
                  refine T.seq ?_
                  obtain ⟨r19, e20, H⟩ := bd_some H
                  rcases ite_some H with ⟨g21, H⟩ | ⟨g21, H⟩
                  ·
                    refine T.regionL (ll := [0, 1, 2, 3, 4, 5, 6, 7, 8, 9, 10, 11]) rfl ?_
                    refine TO.loadA rfl rfl rfl rfl TWBS7a.a24 mm1 rfl ?_
                    refine TO.fieldAddr0 rfl rfl rfl rfl TWBS7a.f67_0 ?_
                    refine TO.load1 rfl rfl rfl rfl TWBS7a.s3 mm0 rfl ?_
                    refine TO.callX TWBS7a.c95 rfl rfl rfl rfl (fun wc hwc => w_acequiaref01_vertex (n0 := n0) (v1 := (n0.Arcs.getD i14.toNat default).fr) wc (h_n0f3.mono hwc) e20) ?_
                    rintro _ _ ⟨rfl, rfl⟩
                    refine TO.not rfl rfl rfl rfl ?_
                    refine TO.move rfl rfl rfl rfl ?_
                    refine TO.decB (t := 56) (b' := true) rfl g21 ?_
                    refine TO.shut rfl rfl rfl rfl ?_
                    refine TO.shut rfl rfl rfl rfl ?_
                    refine TO.shut rfl rfl rfl rfl ?_
                    refine TO.shut rfl rfl rfl rfl ?_
                    refine TO.shut rfl rfl rfl rfl ?_
                    refine TO.pickT rfl rfl rfl rfl rfl ?_
                    refine TO.done ?_
                    refine X.seq_normal ?_
                    refine T.condT rfl rfl ?_
                    refine T.seq ?_
                    refine T.regionL (ll := [0]) rfl ?_
                    refine TO.assign rfl rfl rfl rfl ?_
                    refine TO.done ?_
                    refine X.seq_normal ?_
                    refine T.trim (AllF.cons (t := 2) rfl AllF.nil) ?_
                    refine T.ret ?_
                    refine X.then_ret ?_
                    refine X.block_ret ?_
                    refine X.then_ret ?_
                    have H := loop_exitE H C_1 ▸ K_1
                    refine X.then_ret ?_
                    refine X.block_ret ?_
                    refine X.then_ret ?_
                    obtain rfl := ret1 H
                    exact X.ret1 rfl rfl rfl rfl (Res.tmp rfl) Pick.nil ⟨rfl, rfl⟩
                  ·
                    obtain ⟨r22, e23, H⟩ := bd_some H
                    refine T.regionL (ll := [0, 1, 2, 3, 4, 5, 6, 7, 8, 9, 10, 11]) rfl ?_
                    refine TO.loadA rfl rfl rfl rfl TWBS7a.a24 mm1 rfl ?_
                    refine TO.fieldAddr0 rfl rfl rfl rfl TWBS7a.f67_0 ?_
                    refine TO.load1 rfl rfl rfl rfl TWBS7a.s3 mm0 rfl ?_
                    refine TO.callX TWBS7a.c95 rfl rfl rfl rfl (fun wc hwc => w_acequiaref01_vertex (n0 := n0) (v1 := (n0.Arcs.getD i14.toNat default).fr) wc (h_n0f3.mono hwc) e20) ?_
                    rintro _ _ ⟨rfl, rfl⟩
                    refine TO.not rfl rfl rfl rfl ?_
                    refine TO.move rfl rfl rfl rfl ?_
                    refine TO.decB (t := 56) (b' := false) rfl (Bool.eq_false_iff.2 g21) ?_
                    refine TO.loadA rfl rfl rfl rfl TWBS7a.a24 mm1 rfl ?_
                    refine TO.fieldAddr0 rfl rfl rfl rfl TWBS7a.f67_1 ?_
                    refine TO.load1 rfl rfl rfl rfl TWBS7a.s3 mm0 rfl ?_
                    refine TO.callX TWBS7a.c95 rfl rfl rfl rfl (fun wc hwc => w_acequiaref01_vertex (n0 := n0) (v1 := (n0.Arcs.getD i14.toNat default).to) wc (h_n0f3.mono hwc) e23) ?_
                    rintro _ _ ⟨rfl, rfl⟩
                    refine TO.not rfl rfl rfl rfl ?_
                    refine TO.pickF rfl rfl rfl rfl rfl ?_
                    refine TO.done ?_
                    refine X.seq_normal ?_
                    rcases ite_some H with ⟨g24, H⟩ | ⟨g24, H⟩
                    ·
                      refine T.condT rfl g24 ?_
                      refine T.seq ?_
                      refine T.regionL (ll := [0]) rfl ?_
                      refine TO.assign rfl rfl rfl rfl ?_
                      refine TO.done ?_
                      refine X.seq_normal ?_
                      refine T.trim (AllF.cons (t := 2) rfl AllF.nil) ?_
                      refine T.ret ?_
                      refine X.then_ret ?_
                      refine X.block_ret ?_
                      refine X.then_ret ?_
                      have H := loop_exitE H C_1 ▸ K_1
                      refine X.then_ret ?_
                      refine X.block_ret ?_
                      refine X.then_ret ?_
                      obtain rfl := ret1 H
                      exact X.ret1 rfl rfl rfl rfl (Res.tmp rfl) Pick.nil ⟨rfl, rfl⟩
                    ·
                      refine T.condF rfl (Bool.eq_false_iff.2 g24) ?_
                      refine T.skip ?_
                      refine X.seq_normal ?_
                      rcases ite_some H with ⟨g25, H⟩ | ⟨g25, H⟩
                      ·
                        refine T.regionL (ll := [0, 1, 2, 3, 4, 5, 6]) rfl ?_
                        refine TO.move rfl rfl rfl rfl ?_
                        refine TO.move rfl rfl rfl rfl ?_
                        refine TO.decB (t := 64) (b' := true) rfl g25 ?_
                        refine TO.shut rfl rfl rfl rfl ?_
                        refine TO.shut rfl rfl rfl rfl ?_
                        refine TO.shut rfl rfl rfl rfl ?_
                        refine TO.pickT rfl rfl rfl rfl rfl ?_
                        refine TO.assign rfl rfl rfl rfl ?_
                        refine TO.done ?_
                        refine X.block_normal ?_
                        refine X.seq_normal ?_
                        refine T.trim (AllF.cons (t := 1) rfl (AllF.cons (t := 3) rfl (AllF.cons (t := 4) rfl (AllF.cons (t := 57) rfl (AllF.cons (t := 58) rfl (AllF.cons (t := 59) rfl (AllF.cons (t := 60) rfl (AllF.cons (t := 61) rfl (AllF.cons (t := 65) rfl (AllF.cons (t := 66) rfl (AllF.cons (t := 67) rfl AllF.nil))))))))))) ?_
                        obtain ⟨g26, H⟩ := gd_some H
                        refine T.regionL (ll := [0, 1, 2]) rfl ?_
                        refine TO.move rfl rfl rfl rfl ?_
                        refine TO.addG g26 rfl rfl rfl rfl rfl ?_
                        refine TO.assign rfl rfl rfl rfl ?_
                        refine TO.done ?_
                        have H := loop_next H C_1
                        exact X.againE3 n_1 true (i14 + 1) H (Nat.lt_succ_self _) (AllF.cons rfl (AllF.cons rfl (AllF.cons rfl AllF.nil))) (Pick.cons tk1 Pick.nil)
                      ·
                        refine T.regionL (ll := [0, 1, 2, 3, 4, 5, 6]) rfl ?_
                        refine TO.move rfl rfl rfl rfl ?_
                        refine TO.move rfl rfl rfl rfl ?_
                        refine TO.decB (t := 64) (b' := false) rfl (Bool.eq_false_iff.2 g25) ?_
                        refine TO.fieldAddr0 rfl rfl rfl rfl TWBS7a.f67_2 ?_
                        refine TO.load1 rfl rfl rfl rfl TWBS7a.s2 mm0 rfl ?_
                        refine TO.bin rfl rfl rfl rfl rfl rfl ?_
                        refine TO.pickF rfl rfl rfl rfl rfl ?_
                        refine TO.assign rfl rfl rfl rfl ?_
                        refine TO.done ?_
                        refine X.block_normal ?_
                        refine X.seq_normal ?_
                        refine T.trim (AllF.cons (t := 1) rfl (AllF.cons (t := 3) rfl (AllF.cons (t := 4) rfl (AllF.cons (t := 57) rfl (AllF.cons (t := 58) rfl (AllF.cons (t := 59) rfl (AllF.cons (t := 60) rfl (AllF.cons (t := 61) rfl (AllF.cons (t := 65) rfl (AllF.cons (t := 66) rfl (AllF.cons (t := 67) rfl AllF.nil))))))))))) ?_
                        obtain ⟨g27, H⟩ := gd_some H
                        refine T.regionL (ll := [0, 1, 2]) rfl ?_
                        refine TO.move rfl rfl rfl rfl ?_
                        refine TO.addG g27 rfl rfl rfl rfl rfl ?_
                        refine TO.assign rfl rfl rfl rfl ?_
                        refine TO.done ?_
                        have H := loop_next H C_1
                        exact X.againE3 n_1 (decide (((n0.Arcs.getD i14.toNat default).cap) < 0)) (i14 + 1) H (Nat.lt_succ_self _) (AllF.cons rfl (AllF.cons rfl (AllF.cons rfl AllF.nil))) (Pick.cons tk1 Pick.nil)
                ·
                  refine T.condPF rfl g15 ?_
                  refine T.exit ?_
                  refine X.then_exit ?_
                  have H := loop_exitE H C_1 ▸ K_1
                  refine X.then_exit ?_
                  refine X.block_here ?_
                  exact X.metE1 below13 H (AllF.cons rfl (AllF.cons rfl AllF.nil)) (Pick.cons tk0 Pick.nil)
              · rintro below28 H
                unfold m_acequiaref01_Check_j2 at H
                refine T.seq ?_
                refine T.seq ?_
                refine T.regionL (ll := [0]) rfl ?_
                refine TO.move rfl rfl rfl rfl ?_
                refine TO.done ?_
                refine X.seq_normal ?_
                rcases ite_some H with ⟨g29, H⟩ | ⟨g29, H⟩
                ·
                  refine T.condT rfl g29 ?_
                  refine T.seq ?_
                  refine T.regionL (ll := [0]) rfl ?_
                  refine TO.assign rfl rfl rfl rfl ?_
                  refine TO.done ?_
                  refine X.seq_normal ?_
                  refine T.ret ?_
                  refine X.then_ret ?_
                  obtain rfl := ret1 H
                  exact X.ret1 rfl rfl rfl rfl (Res.tmp rfl) Pick.nil ⟨rfl, rfl⟩
                ·
                  refine T.condF rfl (Bool.eq_false_iff.2 g29) ?_
                  refine T.skip ?_
                  refine X.seq_normal ?_
                  refine T.seq ?_
                  obtain ⟨⟨r30, r31⟩, e32, H⟩ := bd_some H
                  refine T.regionL (ll := [0, 1, 2, 3, 4, 5, 6]) rfl ?_
                  refine TO.loadA rfl rfl rfl rfl TWBS7a.a24 mm0 rfl ?_
                  refine TO.callX TWBS7a.c96 rfl rfl rfl rfl (fun wc hwc => w_acequiaref01_Sum (n0 := n0) wc (h_n0f3.mono hwc) e32) ?_
                  rintro _ _ ⟨rfl, rfl⟩
                  refine TO.move rfl rfl rfl rfl ?_
                  refine TO.extract rfl rfl rfl rfl rfl ?_
                  refine TO.extract rfl rfl rfl rfl rfl ?_
                  refine TO.assign rfl rfl rfl rfl ?_
                  refine TO.assign rfl rfl rfl rfl ?_
                  refine TO.done ?_
                  refine X.seq_normal ?_
                  refine T.trim (AllF.cons (t := 7) rfl AllF.nil) ?_
                  refine T.seq ?_
                  refine T.seq ?_
                  refine T.regionL (ll := [0, 1]) rfl ?_
                  refine TO.move rfl rfl rfl rfl ?_
                  refine TO.not rfl rfl rfl rfl ?_
                  refine TO.done ?_
                  refine X.seq_normal ?_
                  rcases ite_some H with ⟨g33, H⟩ | ⟨g33, H⟩
                  ·
                    refine T.condT rfl g33 ?_
                    refine T.seq ?_
                    refine T.regionL (ll := [0]) rfl ?_
                    refine TO.assign rfl rfl rfl rfl ?_
                    refine TO.done ?_
                    refine X.seq_normal ?_
                    refine T.ret ?_
                    refine X.then_ret ?_
                    obtain rfl := ret1 H
                    exact X.ret1 rfl rfl rfl rfl (Res.tmp rfl) Pick.nil ⟨rfl, rfl⟩
                  ·
                    refine T.condF rfl (Bool.eq_false_iff.2 g33) ?_
                    refine T.skip ?_
                    refine X.seq_normal ?_
                    refine T.seq ?_
                    refine T.regionL (ll := [0]) rfl ?_
                    refine TO.assign rfl rfl rfl rfl ?_
                    refine TO.done ?_
                    refine X.seq_normal ?_
                    refine T.ret ?_
                    obtain rfl := ret1 H
                    exact X.ret1 rfl rfl rfl rfl (Res.tmp rfl) Pick.nil ⟨rfl, rfl⟩
/-- acequia/acequiaref02.Make -/
theorem w_acequiaref02_Make {n0 : Net} {n0f3_b : Option Addr} {n0f3_n : Nat} {n0f3_c : Nat} (w : World) (h_n0f3 : RS w [] arcC 3 n0f3_b n0f3_n n0f3_c n0.Arcs) {r0 : Csr} {r1 : Int} (H : m_acequiaref02_Make n0 = some (r0, r1)) : Fnc Try.prog 15 #[.agg #[.int .i64 n0.N, .int .i64 n0.S, .int .i64 n0.T, .slice n0f3_b n0f3_n n0f3_c]] w [] (fun v N => ∃ (ob_0 : Option Nat) (n_0 : Nat) (c_0 : Nat) (j_0 : List Value) (ob_4 : Option Nat) (n_4 : Nat) (c_4 : Nat) (j_4 : List Value) (ob_8 : Option Nat) (n_8 : Nat) (c_8 : Nat) (j_8 : List Value) (ob_12 : Option Nat) (n_12 : Nat) (c_12 : Nat) (j_12 : List Value) (ob_16 : Option Nat) (n_16 : Nat) (c_16 : Nat) (j_16 : List Value) (ob_20 : Option Nat) (n_20 : Nat) (c_20 : Nat) (j_20 : List Value), v = .tuple #[.agg #[.int .i64 r0.N, .int .i64 r0.S, .int .i64 r0.T, .slice (sb ob_0) n_0 c_0, .slice (sb ob_4) n_4 c_4, .slice (sb ob_8) n_8 c_8, .slice (sb ob_12) n_12 c_12, .slice (sb ob_16) n_16 c_16, .slice (sb ob_20) n_20 c_20], .int .i64 r1] ∧ N = [(ob_0, .cells (arr (intC .i64) r0.First j_0).toArray 3 (0, 0)), (ob_4, .cells (arr (intC .i64) r0.Head j_4).toArray 3 (0, 0)), (ob_8, .cells (arr (intC .i64) r0.Rev j_8).toArray 3 (0, 0)), (ob_12, .cells (arr (intC .i64) r0.Cap j_12).toArray 2 (0, 0)), (ob_16, .cells (arr (intC .i64) r0.Arc j_16).toArray 3 (0, 0)), (ob_20, .cells (arr boolC r0.Back j_20).toArray 4 (0, 0))] ∧ r0.First.length = n_0 ∧ n_0 ≤ c_0 ∧ j_0.length = (c_0 - n_0) * 1 ∧ (ob_0 = none → c_0 = 0) ∧ r0.Head.length = n_4 ∧ n_4 ≤ c_4 ∧ j_4.length = (c_4 - n_4) * 1 ∧ (ob_4 = none → c_4 = 0) ∧ r0.Rev.length = n_8 ∧ n_8 ≤ c_8 ∧ j_8.length = (c_8 - n_8) * 1 ∧ (ob_8 = none → c_8 = 0) ∧ r0.Cap.length = n_12 ∧ n_12 ≤ c_12 ∧ j_12.length = (c_12 - n_12) * 1 ∧ (ob_12 = none → c_12 = 0) ∧ r0.Arc.length = n_16 ∧ n_16 ≤ c_16 ∧ j_16.length = (c_16 - n_16) * 1 ∧ (ob_16 = none → c_16 = 0) ∧ r0.Back.length = n_20 ∧ n_20 ≤ c_20 ∧ j_20.length = (c_20 - n_20) * 1 ∧ (ob_20 = none → c_20 = 0)) := by
  unfold m_acequiaref02_Make at H
  refine Fnc.enter (vs := [.agg #[.int .i64 n0.N, .int .i64 n0.S, .int .i64 n0.T, .slice n0f3_b n0f3_n n0f3_c]]) Try.func15 rfl rfl (Inv.refl w) ?_
  refine T.seq ?_
  refine T.regionL (ll := [0, 1, 2]) rfl ?_
  refine TO.boxA rfl rfl rfl rfl ?_; intro b1
  refine TO.allocA rfl rfl rfl TWBS7a.z32 ?_; intro b3
  refine TO.assign rfl rfl rfl rfl ?_
  refine TO.done ?_
  refine X.seq_normal ?_
  refine T.seq ?_
  obtain ⟨r5, e6, H⟩ := bd_some H
  refine T.regionL (ll := [0, 1, 2]) rfl ?_
  refine TO.loadA rfl rfl rfl rfl TWBS7a.a24 mm1 rfl ?_
  refine TO.callX TWBS7a.c56 rfl rfl rfl rfl (fun wc hwc => w_acequiaref01_Check (n0 := n0) wc (h_n0f3.mono hwc) e6) ?_
  rintro _ _ ⟨rfl, rfl⟩
  refine TO.assign rfl rfl rfl rfl ?_
  refine TO.done ?_
  refine X.seq_normal ?_
  refine T.seq ?_
  refine T.seq ?_
  refine T.regionL (ll := [0, 1]) rfl ?_
  refine TO.move rfl rfl rfl rfl ?_
  refine TO.bin rfl rfl rfl rfl rfl rfl ?_
  refine TO.done ?_
  refine X.seq_normal ?_
  rcases ite_some H with ⟨g7, H⟩ | ⟨g7, H⟩
  ·
    refine T.condPT rfl g7 ?_
    refine T.seq ?_
    refine T.regionL (ll := [0, 1, 2, 3]) rfl ?_
    refine TO.buildS (t := 32) [.int .i64 0, .int .i64 0, .int .i64 0, .slice none 0 0, .slice none 0 0, .slice none 0 0, .slice none 0 0, .slice none 0 0, .slice none 0 0] [0, 1, 2, 3, 4, 5, 6, 7, 8] rfl rfl rfl rfl (by simp only [setAll, setCells, Value.cells, List.toList_toArray, List.getD_cons_zero, List.getD_cons_succ, List.set_cons_zero, List.set_cons_succ]; rfl) (by kernel_rfl) ?_
    refine TO.move rfl rfl rfl rfl ?_
    refine TO.storeA rfl rfl rfl rfl tk0 TWBS7a.n32 rfl rfl rfl ?_
    refine TO.assign rfl rfl rfl rfl ?_
    refine TO.done ?_
    refine X.seq_normal ?_
    refine T.trim (AllF.cons (t := 2) rfl (AllF.cons (t := 3) rfl AllF.nil)) ?_
    refine T.ret ?_
    refine X.then_ret ?_
    obtain ⟨rfl, rfl⟩ := ret2 H
    exact X.ret2 rfl rfl rfl rfl (Res.cellA rfl TWBS7a.a32 mm0 rfl) (Res.tmp rfl) (Pick.none (Pick.none (Pick.none (Pick.none (Pick.none (Pick.none Pick.nil)))))) ⟨none, 0, 0, ([]), none, 0, 0, ([]), none, 0, 0, ([]), none, 0, 0, ([]), none, 0, 0, ([]), none, 0, 0, ([]), rfl, rfl, rfl, (Nat.le_refl _), (zeroJ 0 _), (fun _ => rfl), rfl, (Nat.le_refl _), (zeroJ 0 _), (fun _ => rfl), rfl, (Nat.le_refl _), (zeroJ 0 _), (fun _ => rfl), rfl, (Nat.le_refl _), (zeroJ 0 _), (fun _ => rfl), rfl, (Nat.le_refl _), (zeroJ 0 _), (fun _ => rfl), rfl, (Nat.le_refl _), (zeroJ 0 _), (fun _ => rfl)⟩
  ·
    refine T.condPF rfl g7 ?_
    refine T.skip ?_
    refine X.seq_normal ?_
    refine T.seq ?_
    refine T.regionL (ll := [0, 1, 2, 3, 4, 5, 6, 7, 8]) rfl ?_
    refine TO.fieldAddr0 rfl rfl rfl rfl TWBS7a.f24_0 ?_
    refine TO.load1 rfl rfl rfl rfl TWBS7a.s3 mm1 rfl ?_
    refine TO.fieldAddr0 rfl rfl rfl rfl TWBS7a.f24_1 ?_
    refine TO.load1 rfl rfl rfl rfl TWBS7a.s3 mm1 rfl ?_
    refine TO.fieldAddr0 rfl rfl rfl rfl TWBS7a.f24_2 ?_
    refine TO.load1 rfl rfl rfl rfl TWBS7a.s3 mm1 rfl ?_
    refine TO.buildS (t := 32) [.int .i64 0, .int .i64 0, .int .i64 0, .slice none 0 0, .slice none 0 0, .slice none 0 0, .slice none 0 0, .slice none 0 0, .slice none 0 0] [0, 1, 2, 3, 4, 5, 6, 7, 8] rfl rfl rfl rfl (by simp only [setAll, setCells, Value.cells, List.toList_toArray, List.getD_cons_zero, List.getD_cons_succ, List.set_cons_zero, List.set_cons_succ]; rfl) (by kernel_rfl) ?_
    refine TO.allocA rfl rfl rfl TWBS7a.z32 ?_; intro b8
    refine TO.storeA rfl rfl rfl rfl tk0 TWBS7a.n32 rfl rfl rfl ?_
    refine TO.done ?_
    refine X.seq_normal ?_
    refine T.trim (AllF.cons (t := 1) rfl (AllF.cons (t := 2) rfl (AllF.cons (t := 5) rfl AllF.nil))) ?_
    refine T.seq ?_
    refine T.seq ?_
    refine T.regionL (ll := [0]) rfl ?_
    refine TO.assign rfl rfl rfl rfl ?_
    refine TO.done ?_
    refine X.seq_normal ?_
    refine T.meetSE25 (fun (First294 : List Int) (n295 : Nat) (c296 : Nat) (ob297 : Option Nat) (j298 : List Value) (Head304 : List Int) (n305 : Nat) (c306 : Nat) (ob307 : Option Nat) (j308 : List Value) (Cap314 : List Int) (n315 : Nat) (c316 : Nat) (ob317 : Option Nat) (j318 : List Value) (Arc324 : List Int) (n325 : Nat) (c326 : Nat) (ob327 : Option Nat) (j328 : List Value) (Back334 : List Bool) (n335 : Nat) (c336 : Nat) (ob337 : Option Nat) (j338 : List Value) => m_acequiaref02_Make_j5 n0 First294 Head304 Cap314 Arc324 Back334 = some (r0, r1) ∧ First294.length = n295 ∧ n295 ≤ c296 ∧ j298.length = (c296 - n295) * 1 ∧ (ob297 = none → c296 = 0) ∧ Head304.length = n305 ∧ n305 ≤ c306 ∧ j308.length = (c306 - n305) * 1 ∧ (ob307 = none → c306 = 0) ∧ Cap314.length = n315 ∧ n315 ≤ c316 ∧ j318.length = (c316 - n315) * 1 ∧ (ob317 = none → c316 = 0) ∧ Arc324.length = n325 ∧ n325 ≤ c326 ∧ j328.length = (c326 - n325) * 1 ∧ (ob327 = none → c326 = 0) ∧ Back334.length = n335 ∧ n335 ≤ c336 ∧ j338.length = (c336 - n335) * 1 ∧ (ob337 = none → c336 = 0)) (fun (First294 : List Int) (n295 : Nat) (c296 : Nat) (ob297 : Option Nat) (j298 : List Value) (Head304 : List Int) (n305 : Nat) (c306 : Nat) (ob307 : Option Nat) (j308 : List Value) (Cap314 : List Int) (n315 : Nat) (c316 : Nat) (ob317 : Option Nat) (j318 : List Value) (Arc324 : List Int) (n325 : Nat) (c326 : Nat) (ob327 : Option Nat) (j328 : List Value) (Back334 : List Bool) (n335 : Nat) (c336 : Nat) (ob337 : Option Nat) (j338 : List Value) => [(2, .pointer (some ⟨b3, 0, none⟩)), (5, .pointer (some ⟨b8, 0, none⟩))]) (fun (First294 : List Int) (n295 : Nat) (c296 : Nat) (ob297 : Option Nat) (j298 : List Value) (Head304 : List Int) (n305 : Nat) (c306 : Nat) (ob307 : Option Nat) (j308 : List Value) (Cap314 : List Int) (n315 : Nat) (c316 : Nat) (ob317 : Option Nat) (j318 : List Value) (Arc324 : List Int) (n325 : Nat) (c326 : Nat) (ob327 : Option Nat) (j328 : List Value) (Back334 : List Bool) (n335 : Nat) (c336 : Nat) (ob337 : Option Nat) (j338 : List Value) => [(some b3, .cells #[.int .i64 0, .int .i64 0, .int .i64 0, .slice none 0 0, .slice none 0 0, .slice none 0 0, .slice none 0 0, .slice none 0 0, .slice none 0 0] 32 (0, 0)), (some b8, .cells #[.int .i64 n0.N, .int .i64 n0.S, .int .i64 n0.T, .slice (sb ob297) n295 c296, .slice (sb ob307) n305 c306, .slice none 0 0, .slice (sb ob317) n315 c316, .slice (sb ob327) n325 c326, .slice (sb ob337) n335 c336] 32 (0, 0)), (ob297, .cells (arr (intC .i64) First294 j298).toArray 3 (0, 0)), (ob307, .cells (arr (intC .i64) Head304 j308).toArray 3 (0, 0)), (ob317, .cells (arr (intC .i64) Cap314 j318).toArray 2 (0, 0)), (ob327, .cells (arr (intC .i64) Arc324 j328).toArray 3 (0, 0)), (ob337, .cells (arr boolC Back334 j338).toArray 4 (0, 0))]) ?_ ?_
    ·
      refine T.block ?_
      obtain ⟨o_1, e_1, K_1⟩ := bd_some H
      refine T.loopE27 (fun (m_1 : Nat) (First10 : List Int) (n11 : Nat) (c12 : Nat) (ob13 : Option Nat) (j14 : List Value) (Head20 : List Int) (n21 : Nat) (c22 : Nat) (ob23 : Option Nat) (j24 : List Value) (Cap30 : List Int) (n31 : Nat) (c32 : Nat) (ob33 : Option Nat) (j34 : List Value) (Arc40 : List Int) (n41 : Nat) (c42 : Nat) (ob43 : Option Nat) (j44 : List Value) (Back50 : List Bool) (n51 : Nat) (c52 : Nat) (ob53 : Option Nat) (j54 : List Value) (v60 : Int) => loopM (fun s => m_acequiaref02_Make_s1 n0 s.1 s.2.1 s.2.2.1 s.2.2.2.1 s.2.2.2.2.1 s.2.2.2.2.2) m_1 (First10, Head20, Cap30, Arc40, Back50, v60) = some o_1 ∧ First10.length = n11 ∧ n11 ≤ c12 ∧ j14.length = (c12 - n11) * 1 ∧ (ob13 = none → c12 = 0) ∧ Head20.length = n21 ∧ n21 ≤ c22 ∧ j24.length = (c22 - n21) * 1 ∧ (ob23 = none → c22 = 0) ∧ Cap30.length = n31 ∧ n31 ≤ c32 ∧ j34.length = (c32 - n31) * 1 ∧ (ob33 = none → c32 = 0) ∧ Arc40.length = n41 ∧ n41 ≤ c42 ∧ j44.length = (c42 - n41) * 1 ∧ (ob43 = none → c42 = 0) ∧ Back50.length = n51 ∧ n51 ≤ c52 ∧ j54.length = (c52 - n51) * 1 ∧ (ob53 = none → c52 = 0)) (fun (m_1 : Nat) (First10 : List Int) (n11 : Nat) (c12 : Nat) (ob13 : Option Nat) (j14 : List Value) (Head20 : List Int) (n21 : Nat) (c22 : Nat) (ob23 : Option Nat) (j24 : List Value) (Cap30 : List Int) (n31 : Nat) (c32 : Nat) (ob33 : Option Nat) (j34 : List Value) (Arc40 : List Int) (n41 : Nat) (c42 : Nat) (ob43 : Option Nat) (j44 : List Value) (Back50 : List Bool) (n51 : Nat) (c52 : Nat) (ob53 : Option Nat) (j54 : List Value) (v60 : Int) => [(1, .pointer (some ⟨b1, 0, none⟩)), (2, .pointer (some ⟨b3, 0, none⟩)), (5, .pointer (some ⟨b8, 0, none⟩)), (6, .int .i64 v60)]) (fun (m_1 : Nat) (First10 : List Int) (n11 : Nat) (c12 : Nat) (ob13 : Option Nat) (j14 : List Value) (Head20 : List Int) (n21 : Nat) (c22 : Nat) (ob23 : Option Nat) (j24 : List Value) (Cap30 : List Int) (n31 : Nat) (c32 : Nat) (ob33 : Option Nat) (j34 : List Value) (Arc40 : List Int) (n41 : Nat) (c42 : Nat) (ob43 : Option Nat) (j44 : List Value) (Back50 : List Bool) (n51 : Nat) (c52 : Nat) (ob53 : Option Nat) (j54 : List Value) (v60 : Int) => [(some b1, .cells #[.int .i64 n0.N, .int .i64 n0.S, .int .i64 n0.T, .slice n0f3_b n0f3_n n0f3_c] 24 (0, 0)), (some b3, .cells #[.int .i64 0, .int .i64 0, .int .i64 0, .slice none 0 0, .slice none 0 0, .slice none 0 0, .slice none 0 0, .slice none 0 0, .slice none 0 0] 32 (0, 0)), (some b8, .cells #[.int .i64 n0.N, .int .i64 n0.S, .int .i64 n0.T, .slice (sb ob13) n11 c12, .slice (sb ob23) n21 c22, .slice none 0 0, .slice (sb ob33) n31 c32, .slice (sb ob43) n41 c42, .slice (sb ob53) n51 c52] 32 (0, 0)), (ob13, .cells (arr (intC .i64) First10 j14).toArray 3 (0, 0)), (ob23, .cells (arr (intC .i64) Head20 j24).toArray 3 (0, 0)), (ob33, .cells (arr (intC .i64) Cap30 j34).toArray 2 (0, 0)), (ob43, .cells (arr (intC .i64) Arc40 j44).toArray 3 (0, 0)), (ob53, .cells (arr boolC Back50 j54).toArray 4 (0, 0))]) (fun (m_1 : Nat) (First10 : List Int) (n11 : Nat) (c12 : Nat) (ob13 : Option Nat) (j14 : List Value) (Head20 : List Int) (n21 : Nat) (c22 : Nat) (ob23 : Option Nat) (j24 : List Value) (Cap30 : List Int) (n31 : Nat) (c32 : Nat) (ob33 : Option Nat) (j34 : List Value) (Arc40 : List Int) (n41 : Nat) (c42 : Nat) (ob43 : Option Nat) (j44 : List Value) (Back50 : List Bool) (n51 : Nat) (c52 : Nat) (ob53 : Option Nat) (j54 : List Value) (v60 : Int) => m_1) FUEL ([]) 0 0 none ([]) ([]) 0 0 none ([]) ([]) 0 0 none ([]) ([]) 0 0 none ([]) ([]) 0 0 none ([]) 0 ⟨e_1, rfl, (Nat.le_refl _), (zeroJ 0 _), (fun _ => rfl), rfl, (Nat.le_refl _), (zeroJ 0 _), (fun _ => rfl), rfl, (Nat.le_refl _), (zeroJ 0 _), (fun _ => rfl), rfl, (Nat.le_refl _), (zeroJ 0 _), (fun _ => rfl), rfl, (Nat.le_refl _), (zeroJ 0 _), (fun _ => rfl)⟩ (AllF.cons rfl (AllF.cons rfl (AllF.cons rfl (AllF.cons rfl AllF.nil)))) (Pick.cons tk2 (Pick.cons tk1 (Pick.cons tk0 (Pick.none (Pick.none (Pick.none (Pick.none (Pick.none Pick.nil)))))))) ?_
      rintro m_1 First10 n11 c12 ob13 j14 Head20 n21 c22 ob23 j24 Cap30 n31 c32 ob33 j34 Arc40 n41 c42 ob43 j44 Back50 n51 c52 ob53 j54 v60 ⟨H, hn15, hc16, hj17, hz18, hn25, hc26, hj27, hz28, hn35, hc36, hj37, hz38, hn45, hc46, hj47, hz48, hn55, hc56, hj57, hz58⟩
      obtain ⟨n_1, r_1, rfl, H, C_1⟩ := loopM_some H
      have H : m_acequiaref02_Make_s1 n0 First10 Head20 Cap30 Arc40 Back50 v60 = some r_1 := H
      unfold m_acequiaref02_Make_s1 at H
      refine T.seq ?_
      refine T.seq ?_
      refine T.regionL (ll := [0, 1, 2, 3]) rfl ?_
      refine TO.move rfl rfl rfl rfl ?_
      refine TO.fieldAddr0 rfl rfl rfl rfl TWBS7a.f24_0 ?_
      refine TO.load1 rfl rfl rfl rfl TWBS7a.s3 mm0 rfl ?_
      refine TO.bin rfl rfl rfl rfl rfl rfl ?_
      refine TO.done ?_
      refine X.seq_normal ?_
      rcases ite_some H with ⟨g61, H⟩ | ⟨g61, H⟩
      ·
        refine T.condPT rfl g61 ?_
        refine T.skip ?_
        refine X.seq_normal ?_
        refine T.seq ?_
        refine T.meetSE25 (fun (First243 : List Int) (n244 : Nat) (c245 : Nat) (ob246 : Option Nat) (j247 : List Value) (Head253 : List Int) (n254 : Nat) (c255 : Nat) (ob256 : Option Nat) (j257 : List Value) (Cap263 : List Int) (n264 : Nat) (c265 : Nat) (ob266 : Option Nat) (j267 : List Value) (Arc273 : List Int) (n274 : Nat) (c275 : Nat) (ob276 : Option Nat) (j277 : List Value) (Back283 : List Bool) (n284 : Nat) (c285 : Nat) (ob286 : Option Nat) (j287 : List Value) => m_acequiaref02_Make_j4 v60 First243 Head253 Cap263 Arc273 Back283 = some r_1 ∧ First243.length = n244 ∧ n244 ≤ c245 ∧ j247.length = (c245 - n244) * 1 ∧ (ob246 = none → c245 = 0) ∧ Head253.length = n254 ∧ n254 ≤ c255 ∧ j257.length = (c255 - n254) * 1 ∧ (ob256 = none → c255 = 0) ∧ Cap263.length = n264 ∧ n264 ≤ c265 ∧ j267.length = (c265 - n264) * 1 ∧ (ob266 = none → c265 = 0) ∧ Arc273.length = n274 ∧ n274 ≤ c275 ∧ j277.length = (c275 - n274) * 1 ∧ (ob276 = none → c275 = 0) ∧ Back283.length = n284 ∧ n284 ≤ c285 ∧ j287.length = (c285 - n284) * 1 ∧ (ob286 = none → c285 = 0)) (fun (First243 : List Int) (n244 : Nat) (c245 : Nat) (ob246 : Option Nat) (j247 : List Value) (Head253 : List Int) (n254 : Nat) (c255 : Nat) (ob256 : Option Nat) (j257 : List Value) (Cap263 : List Int) (n264 : Nat) (c265 : Nat) (ob266 : Option Nat) (j267 : List Value) (Arc273 : List Int) (n274 : Nat) (c275 : Nat) (ob276 : Option Nat) (j277 : List Value) (Back283 : List Bool) (n284 : Nat) (c285 : Nat) (ob286 : Option Nat) (j287 : List Value) => [(1, .pointer (some ⟨b1, 0, none⟩)), (2, .pointer (some ⟨b3, 0, none⟩)), (5, .pointer (some ⟨b8, 0, none⟩)), (6, .int .i64 v60)]) (fun (First243 : List Int) (n244 : Nat) (c245 : Nat) (ob246 : Option Nat) (j247 : List Value) (Head253 : List Int) (n254 : Nat) (c255 : Nat) (ob256 : Option Nat) (j257 : List Value) (Cap263 : List Int) (n264 : Nat) (c265 : Nat) (ob266 : Option Nat) (j267 : List Value) (Arc273 : List Int) (n274 : Nat) (c275 : Nat) (ob276 : Option Nat) (j277 : List Value) (Back283 : List Bool) (n284 : Nat) (c285 : Nat) (ob286 : Option Nat) (j287 : List Value) => [(some b1, .cells #[.int .i64 n0.N, .int .i64 n0.S, .int .i64 n0.T, .slice n0f3_b n0f3_n n0f3_c] 24 (0, 0)), (some b3, .cells #[.int .i64 0, .int .i64 0, .int .i64 0, .slice none 0 0, .slice none 0 0, .slice none 0 0, .slice none 0 0, .slice none 0 0, .slice none 0 0] 32 (0, 0)), (some b8, .cells #[.int .i64 n0.N, .int .i64 n0.S, .int .i64 n0.T, .slice (sb ob246) n244 c245, .slice (sb ob256) n254 c255, .slice none 0 0, .slice (sb ob266) n264 c265, .slice (sb ob276) n274 c275, .slice (sb ob286) n284 c285] 32 (0, 0)), (ob246, .cells (arr (intC .i64) First243 j247).toArray 3 (0, 0)), (ob256, .cells (arr (intC .i64) Head253 j257).toArray 3 (0, 0)), (ob266, .cells (arr (intC .i64) Cap263 j267).toArray 2 (0, 0)), (ob276, .cells (arr (intC .i64) Arc273 j277).toArray 3 (0, 0)), (ob286, .cells (arr boolC Back283 j287).toArray 4 (0, 0))]) ?_ ?_
        ·
          refine T.block ?_
          refine T.seq ?_
          obtain ⟨g64, H⟩ := gd_some H
          refine T.regionL (ll := [0, 1, 2, 3, 4, 5, 6, 7, 8]) rfl ?_
          refine TO.fieldAddr0 rfl rfl rfl rfl TWBS7a.f32_3 ?_
          refine TO.load1 rfl rfl rfl rfl TWBS7a.s27 mm2 rfl ?_
          refine TO.fieldAddr0 rfl rfl rfl rfl TWBS7a.f32_4 ?_
          refine TO.load1 rfl rfl rfl rfl TWBS7a.s27 mm2 rfl ?_
          refine TO.lenX (xs := Head20) hn25 rfl rfl rfl rfl rfl TWBS7a.l27 ?_
          refine TO.buildSliceS [.int .i64 0] [0] rfl rfl rfl rfl TWBS7a.l27 TWBS7a.n3 TWBS7a.z3 rfl rfl (by simp only [setAll, setCells, Value.cells, List.toList_toArray, List.getD_cons_zero, List.getD_cons_succ, List.set_cons_zero, List.set_cons_succ]; rfl) (by kernel_rfl) ?_; intro b62
          refine TO.app (f := (intC .i64)) (s := 1) (xs := First10) (ob := ob13) (j := j14) (ys := [(Head20.length : Int)]) (fun _ => rfl) (fun _ => rfl) TWBS7ael27 g64 rfl rfl rfl rfl rfl tk4 hn15 hc16 hj17 hz18 (fun wc hwc => (hwc.rs (f := (intC .i64)) (s := 1) (xs := [(Head20.length : Int)]) (j := ([])) (fun _ => rfl) mm0 rfl (Nat.le_refl _) someZ)) ?_; intro ob65 c66 j67 hc68 hj69 hz70
          refine TO.fieldAddr0 rfl rfl rfl rfl TWBS7a.f32_3 ?_
          refine TO.store1n (cs' := [.int .i64 n0.N, .int .i64 n0.S, .int .i64 n0.T, .slice (sb ob65) (n11 + 1) c66, .slice (sb ob23) n21 c22, .slice none 0 0, .slice (sb ob33) n31 c32, .slice (sb ob43) n41 c42, .slice (sb ob53) n51 c52]) rfl rfl rfl rfl tk4 TWBS7a.n27 rfl rfl rfl ?_
          refine TO.done ?_
          refine X.seq_normal ?_
          refine T.trim (AllF.cons (t := 1) rfl (AllF.cons (t := 2) rfl (AllF.cons (t := 5) rfl (AllF.cons (t := 6) rfl AllF.nil)))) ?_
          refine T.seq ?_
          refine T.regionL (ll := [0]) rfl ?_
          refine TO.assign rfl rfl rfl rfl ?_
          refine TO.done ?_
          refine X.seq_normal ?_
          refine T.block ?_
          obtain ⟨o_2, e_2, K_2⟩ := bd_some H
          refine T.loopE22 (fun (m_2 : Nat) (Head72 : List Int) (n73 : Nat) (c74 : Nat) (ob75 : Option Nat) (j76 : List Value) (Cap82 : List Int) (n83 : Nat) (c84 : Nat) (ob85 : Option Nat) (j86 : List Value) (Arc92 : List Int) (n93 : Nat) (c94 : Nat) (ob95 : Option Nat) (j96 : List Value) (Back102 : List Bool) (n103 : Nat) (c104 : Nat) (ob105 : Option Nat) (j106 : List Value) (k112 : Int) => loopM (fun s => m_acequiaref02_Make_s2 n0 First10 Head20 v60 s.1 s.2.1 s.2.2.1 s.2.2.2.1 s.2.2.2.2) m_2 (Head72, Cap82, Arc92, Back102, k112) = some o_2 ∧ Head72.length = n73 ∧ n73 ≤ c74 ∧ j76.length = (c74 - n73) * 1 ∧ (ob75 = none → c74 = 0) ∧ Cap82.length = n83 ∧ n83 ≤ c84 ∧ j86.length = (c84 - n83) * 1 ∧ (ob85 = none → c84 = 0) ∧ Arc92.length = n93 ∧ n93 ≤ c94 ∧ j96.length = (c94 - n93) * 1 ∧ (ob95 = none → c94 = 0) ∧ Back102.length = n103 ∧ n103 ≤ c104 ∧ j106.length = (c104 - n103) * 1 ∧ (ob105 = none → c104 = 0)) (fun (m_2 : Nat) (Head72 : List Int) (n73 : Nat) (c74 : Nat) (ob75 : Option Nat) (j76 : List Value) (Cap82 : List Int) (n83 : Nat) (c84 : Nat) (ob85 : Option Nat) (j86 : List Value) (Arc92 : List Int) (n93 : Nat) (c94 : Nat) (ob95 : Option Nat) (j96 : List Value) (Back102 : List Bool) (n103 : Nat) (c104 : Nat) (ob105 : Option Nat) (j106 : List Value) (k112 : Int) => [(1, .pointer (some ⟨b1, 0, none⟩)), (2, .pointer (some ⟨b3, 0, none⟩)), (5, .pointer (some ⟨b8, 0, none⟩)), (6, .int .i64 v60), (7, .int .i64 k112)]) (fun (m_2 : Nat) (Head72 : List Int) (n73 : Nat) (c74 : Nat) (ob75 : Option Nat) (j76 : List Value) (Cap82 : List Int) (n83 : Nat) (c84 : Nat) (ob85 : Option Nat) (j86 : List Value) (Arc92 : List Int) (n93 : Nat) (c94 : Nat) (ob95 : Option Nat) (j96 : List Value) (Back102 : List Bool) (n103 : Nat) (c104 : Nat) (ob105 : Option Nat) (j106 : List Value) (k112 : Int) => [(some b1, .cells #[.int .i64 n0.N, .int .i64 n0.S, .int .i64 n0.T, .slice n0f3_b n0f3_n n0f3_c] 24 (0, 0)), (some b3, .cells #[.int .i64 0, .int .i64 0, .int .i64 0, .slice none 0 0, .slice none 0 0, .slice none 0 0, .slice none 0 0, .slice none 0 0, .slice none 0 0] 32 (0, 0)), (some b8, .cells #[.int .i64 n0.N, .int .i64 n0.S, .int .i64 n0.T, .slice (sb ob65) (n11 + 1) c66, .slice (sb ob75) n73 c74, .slice none 0 0, .slice (sb ob85) n83 c84, .slice (sb ob95) n93 c94, .slice (sb ob105) n103 c104] 32 (0, 0)), (ob65, .cells (arr (intC .i64) (First10 ++ ([(Head20.length : Int)])) j67).toArray 3 (0, 0)), (ob75, .cells (arr (intC .i64) Head72 j76).toArray 3 (0, 0)), (ob85, .cells (arr (intC .i64) Cap82 j86).toArray 2 (0, 0)), (ob95, .cells (arr (intC .i64) Arc92 j96).toArray 3 (0, 0)), (ob105, .cells (arr boolC Back102 j106).toArray 4 (0, 0))]) (fun (m_2 : Nat) (Head72 : List Int) (n73 : Nat) (c74 : Nat) (ob75 : Option Nat) (j76 : List Value) (Cap82 : List Int) (n83 : Nat) (c84 : Nat) (ob85 : Option Nat) (j86 : List Value) (Arc92 : List Int) (n93 : Nat) (c94 : Nat) (ob95 : Option Nat) (j96 : List Value) (Back102 : List Bool) (n103 : Nat) (c104 : Nat) (ob105 : Option Nat) (j106 : List Value) (k112 : Int) => m_2) FUEL Head20 n21 c22 ob23 j24 Cap30 n31 c32 ob33 j34 Arc40 n41 c42 ob43 j44 Back50 n51 c52 ob53 j54 0 ⟨e_2, hn25, hc26, hj27, hz28, hn35, hc36, hj37, hz38, hn45, hc46, hj47, hz48, hn55, hc56, hj57, hz58⟩ (AllF.cons rfl (AllF.cons rfl (AllF.cons rfl (AllF.cons rfl (AllF.cons rfl AllF.nil))))) (Pick.cons tk3 (Pick.cons tk3 (Pick.cons tk0 (Pick.cons tk0 (Pick.cons tk1 (Pick.cons tk1 (Pick.cons tk1 (Pick.cons tk1 Pick.nil)))))))) ?_
          rintro m_2 Head72 n73 c74 ob75 j76 Cap82 n83 c84 ob85 j86 Arc92 n93 c94 ob95 j96 Back102 n103 c104 ob105 j106 k112 ⟨H, hn77, hc78, hj79, hz80, hn87, hc88, hj89, hz90, hn97, hc98, hj99, hz100, hn107, hc108, hj109, hz110⟩
          obtain ⟨n_2, r_2, rfl, H, C_2⟩ := loopM_some H
          have H : m_acequiaref02_Make_s2 n0 First10 Head20 v60 Head72 Cap82 Arc92 Back102 k112 = some r_2 := H
          unfold m_acequiaref02_Make_s2 at H
          refine T.seq ?_
          refine T.seq ?_
          refine T.regionL (ll := [0, 1, 2, 3, 4]) rfl ?_
          refine TO.move rfl rfl rfl rfl ?_
          refine TO.fieldAddr0 rfl rfl rfl rfl TWBS7a.f24_3 ?_
          refine TO.load1 rfl rfl rfl rfl TWBS7a.s22 mm0 rfl ?_
          refine TO.lenX (xs := n0.Arcs) h_n0f3.len rfl rfl rfl rfl rfl TWBS7a.l22 ?_
          refine TO.bin rfl rfl rfl rfl rfl rfl ?_
          refine TO.done ?_
          refine X.seq_normal ?_
          rcases ite_some H with ⟨g113, H⟩ | ⟨g113, H⟩
          ·
            refine T.condPT rfl g113 ?_
            refine T.skip ?_
            refine X.seq_normal ?_
            refine T.seq ?_
            refine T.block ?_
            refine T.seq ?_
            obtain ⟨g114, H⟩ := gd_some H
            refine T.regionL (ll := [0, 1, 2, 3, 4, 5, 6]) rfl ?_
            refine TO.fieldAddr0 rfl rfl rfl rfl TWBS7a.f24_3 ?_
            refine TO.load1 rfl rfl rfl rfl TWBS7a.s22 mm0 rfl ?_
            refine TO.move rfl rfl rfl rfl ?_
            refine TO.ixR h_n0f3 g114 rfl rfl rfl rfl rfl TWBS7a.l22 TWBS7a.n67 ?_
            refine TO.ldSR (cs := [.int .i64 ((n0.Arcs.getD k112.toNat default).fr), .int .i64 ((n0.Arcs.getD k112.toNat default).to), .int .i64 ((n0.Arcs.getD k112.toNat default).cap)]) default h_n0f3 g114 rfl rfl rfl rfl rfl TWBS7a.a67 ?_
            refine TO.allocA rfl rfl rfl TWBS7a.z67 ?_; intro b115
            refine TO.storeA rfl rfl rfl rfl tk0 TWBS7a.n67 rfl rfl rfl ?_
            refine TO.done ?_
            refine X.seq_normal ?_
            refine T.trim (AllF.cons (t := 1) rfl (AllF.cons (t := 2) rfl (AllF.cons (t := 5) rfl (AllF.cons (t := 6) rfl (AllF.cons (t := 7) rfl (AllF.cons (t := 8) rfl AllF.nil)))))) ?_
            refine T.seq ?_
            refine T.seq ?_
            refine T.regionL (ll := [0, 1, 2, 3, 4]) rfl ?_
            refine TO.fieldAddr0 rfl rfl rfl rfl TWBS7a.f67_0 ?_
            refine TO.load1 rfl rfl rfl rfl TWBS7a.s3 mm0 rfl ?_
            refine TO.fieldAddr0 rfl rfl rfl rfl TWBS7a.f67_1 ?_
            refine TO.load1 rfl rfl rfl rfl TWBS7a.s3 mm0 rfl ?_
            refine TO.bin rfl rfl rfl rfl rfl rfl ?_
            refine TO.done ?_
            refine X.seq_normal ?_
            rcases ite_some H with ⟨g117, H⟩ | ⟨g117, H⟩
            ·
              refine T.condPT rfl g117 ?_
              refine T.exit ?_
              refine X.then_exit ?_
              refine X.block_here ?_
              refine X.seq_normal ?_
              obtain ⟨g118, H⟩ := gd_some H
              refine T.regionL (ll := [0, 1, 2]) rfl ?_
              refine TO.move rfl rfl rfl rfl ?_
              refine TO.addG g118 rfl rfl rfl rfl rfl ?_
              refine TO.assign rfl rfl rfl rfl ?_
              refine TO.done ?_
              have H := loop_next H C_2
              exact X.againE22 n_2 Head72 n73 c74 ob75 j76 Cap82 n83 c84 ob85 j86 Arc92 n93 c94 ob95 j96 Back102 n103 c104 ob105 j106 (k112 + 1) ⟨H, hn77, hc78, hj79, hz80, hn87, hc88, hj89, hz90, hn97, hc98, hj99, hz100, hn107, hc108, hj109, hz110⟩ (Nat.lt_succ_self _) (AllF.cons rfl (AllF.cons rfl (AllF.cons rfl (AllF.cons rfl (AllF.cons rfl AllF.nil))))) (Pick.cons tk1 (Pick.cons tk1 (Pick.cons tk1 (Pick.cons tk1 (Pick.cons tk1 (Pick.cons tk1 (Pick.cons tk1 (Pick.cons tk1 Pick.nil))))))))
            ·
              refine T.condPF rfl g117 ?_
              refine T.skip ?_
              refine X.seq_normal ?_
              refine T.seq ?_
              refine T.seq ?_
              refine T.regionL (ll := [0, 1, 2, 3]) rfl ?_
              refine TO.fieldAddr0 rfl rfl rfl rfl TWBS7a.f67_0 ?_
              refine TO.load1 rfl rfl rfl rfl TWBS7a.s3 mm0 rfl ?_
              refine TO.move rfl rfl rfl rfl ?_
              refine TO.bin rfl rfl rfl rfl rfl rfl ?_
              refine TO.done ?_
              refine X.seq_normal ?_
              refine T.trim (AllF.cons (t := 1) rfl (AllF.cons (t := 2) rfl (AllF.cons (t := 5) rfl (AllF.cons (t := 6) rfl (AllF.cons (t := 7) rfl (AllF.cons (t := 8) rfl (AllF.cons (t := 58) rfl AllF.nil))))))) ?_
              refine T.meetSE20 (fun (Head160 : List Int) (n161 : Nat) (c162 : Nat) (ob163 : Option Nat) (j164 : List Value) (Cap170 : List Int) (n171 : Nat) (c172 : Nat) (ob173 : Option Nat) (j174 : List Value) (Arc180 : List Int) (n181 : Nat) (c182 : Nat) (ob183 : Option Nat) (j184 : List Value) (Back190 : List Bool) (n191 : Nat) (c192 : Nat) (ob193 : Option Nat) (j194 : List Value) => m_acequiaref02_Make_j3 n0 v60 k112 Head160 Cap170 Arc180 Back190 = some r_2 ∧ Head160.length = n161 ∧ n161 ≤ c162 ∧ j164.length = (c162 - n161) * 1 ∧ (ob163 = none → c162 = 0) ∧ Cap170.length = n171 ∧ n171 ≤ c172 ∧ j174.length = (c172 - n171) * 1 ∧ (ob173 = none → c172 = 0) ∧ Arc180.length = n181 ∧ n181 ≤ c182 ∧ j184.length = (c182 - n181) * 1 ∧ (ob183 = none → c182 = 0) ∧ Back190.length = n191 ∧ n191 ≤ c192 ∧ j194.length = (c192 - n191) * 1 ∧ (ob193 = none → c192 = 0)) (fun (Head160 : List Int) (n161 : Nat) (c162 : Nat) (ob163 : Option Nat) (j164 : List Value) (Cap170 : List Int) (n171 : Nat) (c172 : Nat) (ob173 : Option Nat) (j174 : List Value) (Arc180 : List Int) (n181 : Nat) (c182 : Nat) (ob183 : Option Nat) (j184 : List Value) (Back190 : List Bool) (n191 : Nat) (c192 : Nat) (ob193 : Option Nat) (j194 : List Value) => [(1, .pointer (some ⟨b1, 0, none⟩)), (2, .pointer (some ⟨b3, 0, none⟩)), (5, .pointer (some ⟨b8, 0, none⟩)), (6, .int .i64 v60), (7, .int .i64 k112), (8, .pointer (some ⟨b115, 0, none⟩))]) (fun (Head160 : List Int) (n161 : Nat) (c162 : Nat) (ob163 : Option Nat) (j164 : List Value) (Cap170 : List Int) (n171 : Nat) (c172 : Nat) (ob173 : Option Nat) (j174 : List Value) (Arc180 : List Int) (n181 : Nat) (c182 : Nat) (ob183 : Option Nat) (j184 : List Value) (Back190 : List Bool) (n191 : Nat) (c192 : Nat) (ob193 : Option Nat) (j194 : List Value) => [(some b1, .cells #[.int .i64 n0.N, .int .i64 n0.S, .int .i64 n0.T, .slice n0f3_b n0f3_n n0f3_c] 24 (0, 0)), (some b3, .cells #[.int .i64 0, .int .i64 0, .int .i64 0, .slice none 0 0, .slice none 0 0, .slice none 0 0, .slice none 0 0, .slice none 0 0, .slice none 0 0] 32 (0, 0)), (some b8, .cells #[.int .i64 n0.N, .int .i64 n0.S, .int .i64 n0.T, .slice (sb ob65) (n11 + 1) c66, .slice (sb ob163) n161 c162, .slice none 0 0, .slice (sb ob173) n171 c172, .slice (sb ob183) n181 c182, .slice (sb ob193) n191 c192] 32 (0, 0)), (ob65, .cells (arr (intC .i64) (First10 ++ ([(Head20.length : Int)])) j67).toArray 3 (0, 0)), (ob163, .cells (arr (intC .i64) Head160 j164).toArray 3 (0, 0)), (ob173, .cells (arr (intC .i64) Cap170 j174).toArray 2 (0, 0)), (ob183, .cells (arr (intC .i64) Arc180 j184).toArray 3 (0, 0)), (ob193, .cells (arr boolC Back190 j194).toArray 4 (0, 0)), (some b115, .cells #[.int .i64 ((n0.Arcs.getD k112.toNat default).fr), .int .i64 ((n0.Arcs.getD k112.toNat default).to), .int .i64 ((n0.Arcs.getD k112.toNat default).cap)] 67 (0, 0))]) ?_ ?_
              ·
                rcases ite_some H with ⟨g119, H⟩ | ⟨g119, H⟩
                ·
                  refine T.condPT rfl g119 ?_
                  refine T.seq ?_
                  obtain ⟨g122, H⟩ := gd_some H
                  refine T.regionL (ll := [0, 1, 2, 3, 4, 5, 6, 7]) rfl ?_
                  refine TO.fieldAddr0 rfl rfl rfl rfl TWBS7a.f32_4 ?_
                  refine TO.load1 rfl rfl rfl rfl TWBS7a.s27 mm3 rfl ?_
                  refine TO.fieldAddr0 rfl rfl rfl rfl TWBS7a.f67_1 ?_
                  refine TO.load1 rfl rfl rfl rfl TWBS7a.s3 mm0 rfl ?_
                  refine TO.buildSliceS [.int .i64 0] [0] rfl rfl rfl rfl TWBS7a.l27 TWBS7a.n3 TWBS7a.z3 rfl rfl (by simp only [setAll, setCells, Value.cells, List.toList_toArray, List.getD_cons_zero, List.getD_cons_succ, List.set_cons_zero, List.set_cons_succ]; rfl) (by kernel_rfl) ?_; intro b120
                  refine TO.app (f := (intC .i64)) (s := 1) (xs := Head72) (ob := ob75) (j := j76) (ys := [(n0.Arcs.getD k112.toNat default).to]) (fun _ => rfl) (fun _ => rfl) TWBS7ael27 g122 rfl rfl rfl rfl rfl tk6 hn77 hc78 hj79 hz80 (fun wc hwc => (hwc.rs (f := (intC .i64)) (s := 1) (xs := [(n0.Arcs.getD k112.toNat default).to]) (j := ([])) (fun _ => rfl) mm0 rfl (Nat.le_refl _) someZ)) ?_; intro ob123 c124 j125 hc126 hj127 hz128
                  refine TO.fieldAddr0 rfl rfl rfl rfl TWBS7a.f32_4 ?_
                  refine TO.store1n (cs' := [.int .i64 n0.N, .int .i64 n0.S, .int .i64 n0.T, .slice (sb ob65) (n11 + 1) c66, .slice (sb ob123) (n73 + 1) c124, .slice none 0 0, .slice (sb ob85) n83 c84, .slice (sb ob95) n93 c94, .slice (sb ob105) n103 c104]) rfl rfl rfl rfl tk5 TWBS7a.n27 rfl rfl rfl ?_
                  refine TO.done ?_
                  refine X.seq_normal ?_
                  refine T.trim (AllF.cons (t := 1) rfl (AllF.cons (t := 2) rfl (AllF.cons (t := 5) rfl (AllF.cons (t := 6) rfl (AllF.cons (t := 7) rfl (AllF.cons (t := 8) rfl AllF.nil)))))) ?_
                  refine T.seq ?_
                  obtain ⟨g132, H⟩ := gd_some H
                  refine T.regionL (ll := [0, 1, 2, 3, 4, 5, 6, 7]) rfl ?_
                  refine TO.fieldAddr0 rfl rfl rfl rfl TWBS7a.f32_6 ?_
                  refine TO.load1 rfl rfl rfl rfl TWBS7a.s26 mm0 rfl ?_
                  refine TO.fieldAddr0 rfl rfl rfl rfl TWBS7a.f67_2 ?_
                  refine TO.load1 rfl rfl rfl rfl TWBS7a.s2 mm3 rfl ?_
                  refine TO.buildSliceS [.int .i64 0] [0] rfl rfl rfl rfl TWBS7a.l26 TWBS7a.n2 TWBS7a.z2 rfl rfl (by simp only [setAll, setCells, Value.cells, List.toList_toArray, List.getD_cons_zero, List.getD_cons_succ, List.set_cons_zero, List.set_cons_succ]; rfl) (by kernel_rfl) ?_; intro b130
                  refine TO.app (f := (intC .i64)) (s := 1) (xs := Cap82) (ob := ob85) (j := j86) (ys := [(n0.Arcs.getD k112.toNat default).cap]) (fun _ => rfl) (fun _ => rfl) TWBS7ael26 g132 rfl rfl rfl rfl rfl tk8 hn87 hc88 hj89 hz90 (fun wc hwc => (hwc.rs (f := (intC .i64)) (s := 1) (xs := [(n0.Arcs.getD k112.toNat default).cap]) (j := ([])) (fun _ => rfl) mm0 rfl (Nat.le_refl _) someZ)) ?_; intro ob133 c134 j135 hc136 hj137 hz138
                  refine TO.fieldAddr0 rfl rfl rfl rfl TWBS7a.f32_6 ?_
                  refine TO.store1n (cs' := [.int .i64 n0.N, .int .i64 n0.S, .int .i64 n0.T, .slice (sb ob65) (n11 + 1) c66, .slice (sb ob123) (n73 + 1) c124, .slice none 0 0, .slice (sb ob133) (n83 + 1) c134, .slice (sb ob95) n93 c94, .slice (sb ob105) n103 c104]) rfl rfl rfl rfl tk2 TWBS7a.n26 rfl rfl rfl ?_
                  refine TO.done ?_
                  refine X.seq_normal ?_
                  refine T.seq ?_
                  obtain ⟨g142, H⟩ := gd_some H
                  refine T.regionL (ll := [0, 1, 2, 3, 4, 5, 6]) rfl ?_
                  refine TO.fieldAddr0 rfl rfl rfl rfl TWBS7a.f32_7 ?_
                  refine TO.load1 rfl rfl rfl rfl TWBS7a.s27 mm0 rfl ?_
                  refine TO.move rfl rfl rfl rfl ?_
                  refine TO.buildSliceS [.int .i64 0] [0] rfl rfl rfl rfl TWBS7a.l27 TWBS7a.n3 TWBS7a.z3 rfl rfl (by simp only [setAll, setCells, Value.cells, List.toList_toArray, List.getD_cons_zero, List.getD_cons_succ, List.set_cons_zero, List.set_cons_succ]; rfl) (by kernel_rfl) ?_; intro b140
                  refine TO.app (f := (intC .i64)) (s := 1) (xs := Arc92) (ob := ob95) (j := j96) (ys := [k112]) (fun _ => rfl) (fun _ => rfl) TWBS7ael27 g142 rfl rfl rfl rfl rfl tk10 hn97 hc98 hj99 hz100 (fun wc hwc => (hwc.rs (f := (intC .i64)) (s := 1) (xs := [k112]) (j := ([])) (fun _ => rfl) mm0 rfl (Nat.le_refl _) someZ)) ?_; intro ob143 c144 j145 hc146 hj147 hz148
                  refine TO.fieldAddr0 rfl rfl rfl rfl TWBS7a.f32_7 ?_
                  refine TO.store1n (cs' := [.int .i64 n0.N, .int .i64 n0.S, .int .i64 n0.T, .slice (sb ob65) (n11 + 1) c66, .slice (sb ob123) (n73 + 1) c124, .slice none 0 0, .slice (sb ob133) (n83 + 1) c134, .slice (sb ob143) (n93 + 1) c144, .slice (sb ob105) n103 c104]) rfl rfl rfl rfl tk2 TWBS7a.n27 rfl rfl rfl ?_
                  refine TO.done ?_
                  refine X.seq_normal ?_
                  refine T.trim (AllF.cons (t := 1) rfl (AllF.cons (t := 2) rfl (AllF.cons (t := 5) rfl (AllF.cons (t := 6) rfl (AllF.cons (t := 7) rfl (AllF.cons (t := 8) rfl AllF.nil)))))) ?_
                  obtain ⟨g152, H⟩ := gd_some H
                  refine T.regionL (ll := [0, 1, 2, 3, 4, 5]) rfl ?_
                  refine TO.fieldAddr0 rfl rfl rfl rfl TWBS7a.f32_8 ?_
                  refine TO.load1 rfl rfl rfl rfl TWBS7a.s30 mm0 rfl ?_
                  refine TO.buildSliceS [.bool false] [0] rfl rfl rfl rfl TWBS7a.l30 TWBS7a.n4 TWBS7a.z4 rfl rfl (by simp only [setAll, setCells, Value.cells, List.toList_toArray, List.getD_cons_zero, List.getD_cons_succ, List.set_cons_zero, List.set_cons_succ]; rfl) (by kernel_rfl) ?_; intro b150
                  refine TO.app (f := boolC) (s := 1) (xs := Back102) (ob := ob105) (j := j106) (ys := [false]) (fun _ => rfl) (fun _ => rfl) TWBS7ael30 g152 rfl rfl rfl rfl rfl tk12 hn107 hc108 hj109 hz110 (fun wc hwc => (hwc.rs (f := boolC) (s := 1) (xs := [false]) (j := ([])) (fun _ => rfl) mm0 rfl (Nat.le_refl _) someZ)) ?_; intro ob153 c154 j155 hc156 hj157 hz158
                  refine TO.fieldAddr0 rfl rfl rfl rfl TWBS7a.f32_8 ?_
                  refine TO.store1n (cs' := [.int .i64 n0.N, .int .i64 n0.S, .int .i64 n0.T, .slice (sb ob65) (n11 + 1) c66, .slice (sb ob123) (n73 + 1) c124, .slice none 0 0, .slice (sb ob133) (n83 + 1) c134, .slice (sb ob143) (n93 + 1) c144, .slice (sb ob153) (n103 + 1) c154]) rfl rfl rfl rfl tk2 TWBS7a.n30 rfl rfl rfl ?_
                  refine TO.done ?_
                  exact X.metE20 (Head72 ++ ([(n0.Arcs.getD k112.toNat default).to])) (n73 + 1) c124 ob123 j125 (Cap82 ++ ([(n0.Arcs.getD k112.toNat default).cap])) (n83 + 1) c134 ob133 j135 (Arc92 ++ ([k112])) (n93 + 1) c144 ob143 j145 (Back102 ++ ([false])) (n103 + 1) c154 ob153 j155 ⟨H, (lenApp hn77 rfl), hc126, hj127, hz128, (lenApp hn87 rfl), hc136, hj137, hz138, (lenApp hn97 rfl), hc146, hj147, hz148, (lenApp hn107 rfl), hc156, hj157, hz158⟩ (AllF.cons rfl (AllF.cons rfl (AllF.cons rfl (AllF.cons rfl (AllF.cons rfl (AllF.cons rfl AllF.nil)))))) (Pick.cons tk10 (Pick.cons tk10 (Pick.cons tk0 (Pick.cons tk9 (Pick.cons tk6 (Pick.cons tk4 (Pick.cons tk2 (Pick.cons tk0 (Pick.cons tk4 Pick.nil)))))))))
                ·
                  refine T.condPF rfl g119 ?_
                  refine T.skip ?_
                  exact X.metE20 Head72 n73 c74 ob75 j76 Cap82 n83 c84 ob85 j86 Arc92 n93 c94 ob95 j96 Back102 n103 c104 ob105 j106 ⟨H, hn77, hc78, hj79, hz80, hn87, hc88, hj89, hz90, hn97, hc98, hj99, hz100, hn107, hc108, hj109, hz110⟩ (AllF.cons rfl (AllF.cons rfl (AllF.cons rfl (AllF.cons rfl (AllF.cons rfl (AllF.cons rfl AllF.nil)))))) (Pick.cons tk1 (Pick.cons tk1 (Pick.cons tk1 (Pick.cons tk1 (Pick.cons tk1 (Pick.cons tk1 (Pick.cons tk1 (Pick.cons tk1 (Pick.cons tk0 Pick.nil)))))))))
              · rintro Head160 n161 c162 ob163 j164 Cap170 n171 c172 ob173 j174 Arc180 n181 c182 ob183 j184 Back190 n191 c192 ob193 j194 ⟨H, hn165, hc166, hj167, hz168, hn175, hc176, hj177, hz178, hn185, hc186, hj187, hz188, hn195, hc196, hj197, hz198⟩
                unfold m_acequiaref02_Make_j3 at H
                refine T.seq ?_
                refine T.regionL (ll := [0, 1, 2, 3]) rfl ?_
                refine TO.fieldAddr0 rfl rfl rfl rfl TWBS7a.f67_1 ?_
                refine TO.load1 rfl rfl rfl rfl TWBS7a.s3 mm8 rfl ?_
                refine TO.move rfl rfl rfl rfl ?_
                refine TO.bin rfl rfl rfl rfl rfl rfl ?_
                refine TO.done ?_
                refine X.seq_normal ?_
                rcases ite_some H with ⟨g200, H⟩ | ⟨g200, H⟩
                ·
                  refine T.condPT rfl g200 ?_
                  refine T.seq ?_
                  obtain ⟨g203, H⟩ := gd_some H
                  refine T.regionL (ll := [0, 1, 2, 3, 4, 5, 6, 7]) rfl ?_
                  refine TO.fieldAddr0 rfl rfl rfl rfl TWBS7a.f32_4 ?_
                  refine TO.load1 rfl rfl rfl rfl TWBS7a.s27 mm2 rfl ?_
                  refine TO.fieldAddr0 rfl rfl rfl rfl TWBS7a.f67_0 ?_
                  refine TO.load1 rfl rfl rfl rfl TWBS7a.s3 mm8 rfl ?_
                  refine TO.buildSliceS [.int .i64 0] [0] rfl rfl rfl rfl TWBS7a.l27 TWBS7a.n3 TWBS7a.z3 rfl rfl (by simp only [setAll, setCells, Value.cells, List.toList_toArray, List.getD_cons_zero, List.getD_cons_succ, List.set_cons_zero, List.set_cons_succ]; rfl) (by kernel_rfl) ?_; intro b201
                  refine TO.app (f := (intC .i64)) (s := 1) (xs := Head160) (ob := ob163) (j := j164) (ys := [(n0.Arcs.getD k112.toNat default).fr]) (fun _ => rfl) (fun _ => rfl) TWBS7ael27 g203 rfl rfl rfl rfl rfl tk5 hn165 hc166 hj167 hz168 (fun wc hwc => (hwc.rs (f := (intC .i64)) (s := 1) (xs := [(n0.Arcs.getD k112.toNat default).fr]) (j := ([])) (fun _ => rfl) mm0 rfl (Nat.le_refl _) someZ)) ?_; intro ob204 c205 j206 hc207 hj208 hz209
                  refine TO.fieldAddr0 rfl rfl rfl rfl TWBS7a.f32_4 ?_
                  refine TO.store1n (cs' := [.int .i64 n0.N, .int .i64 n0.S, .int .i64 n0.T, .slice (sb ob65) (n11 + 1) c66, .slice (sb ob204) (n161 + 1) c205, .slice none 0 0, .slice (sb ob173) n171 c172, .slice (sb ob183) n181 c182, .slice (sb ob193) n191 c192]) rfl rfl rfl rfl tk4 TWBS7a.n27 rfl rfl rfl ?_
                  refine TO.done ?_
                  refine X.seq_normal ?_
                  refine T.trim (AllF.cons (t := 1) rfl (AllF.cons (t := 2) rfl (AllF.cons (t := 5) rfl (AllF.cons (t := 6) rfl (AllF.cons (t := 7) rfl AllF.nil))))) ?_
                  refine T.seq ?_
                  obtain ⟨g213, H⟩ := gd_some H
                  refine T.regionL (ll := [0, 1, 2, 3, 4, 5]) rfl ?_
                  refine TO.fieldAddr0 rfl rfl rfl rfl TWBS7a.f32_6 ?_
                  refine TO.load1 rfl rfl rfl rfl TWBS7a.s26 mm0 rfl ?_
                  refine TO.buildSliceS [.int .i64 0] [0] rfl rfl rfl rfl TWBS7a.l26 TWBS7a.n2 TWBS7a.z2 rfl rfl (by simp only [setAll, setCells, Value.cells, List.toList_toArray, List.getD_cons_zero, List.getD_cons_succ, List.set_cons_zero, List.set_cons_succ]; rfl) (by kernel_rfl) ?_; intro b211
                  refine TO.app (f := (intC .i64)) (s := 1) (xs := Cap170) (ob := ob173) (j := j174) (ys := [0]) (fun _ => rfl) (fun _ => rfl) TWBS7ael26 g213 rfl rfl rfl rfl rfl tk7 hn175 hc176 hj177 hz178 (fun wc hwc => (hwc.rs (f := (intC .i64)) (s := 1) (xs := [0]) (j := ([])) (fun _ => rfl) mm0 rfl (Nat.le_refl _) someZ)) ?_; intro ob214 c215 j216 hc217 hj218 hz219
                  refine TO.fieldAddr0 rfl rfl rfl rfl TWBS7a.f32_6 ?_
                  refine TO.store1n (cs' := [.int .i64 n0.N, .int .i64 n0.S, .int .i64 n0.T, .slice (sb ob65) (n11 + 1) c66, .slice (sb ob204) (n161 + 1) c205, .slice none 0 0, .slice (sb ob214) (n171 + 1) c215, .slice (sb ob183) n181 c182, .slice (sb ob193) n191 c192]) rfl rfl rfl rfl tk2 TWBS7a.n26 rfl rfl rfl ?_
                  refine TO.done ?_
                  refine X.seq_normal ?_
                  refine T.seq ?_
                  obtain ⟨g223, H⟩ := gd_some H
                  refine T.regionL (ll := [0, 1, 2, 3, 4, 5, 6]) rfl ?_
                  refine TO.fieldAddr0 rfl rfl rfl rfl TWBS7a.f32_7 ?_
                  refine TO.load1 rfl rfl rfl rfl TWBS7a.s27 mm0 rfl ?_
                  refine TO.move rfl rfl rfl rfl ?_
                  refine TO.buildSliceS [.int .i64 0] [0] rfl rfl rfl rfl TWBS7a.l27 TWBS7a.n3 TWBS7a.z3 rfl rfl (by simp only [setAll, setCells, Value.cells, List.toList_toArray, List.getD_cons_zero, List.getD_cons_succ, List.set_cons_zero, List.set_cons_succ]; rfl) (by kernel_rfl) ?_; intro b221
                  refine TO.app (f := (intC .i64)) (s := 1) (xs := Arc180) (ob := ob183) (j := j184) (ys := [k112]) (fun _ => rfl) (fun _ => rfl) TWBS7ael27 g223 rfl rfl rfl rfl rfl tk9 hn185 hc186 hj187 hz188 (fun wc hwc => (hwc.rs (f := (intC .i64)) (s := 1) (xs := [k112]) (j := ([])) (fun _ => rfl) mm0 rfl (Nat.le_refl _) someZ)) ?_; intro ob224 c225 j226 hc227 hj228 hz229
                  refine TO.fieldAddr0 rfl rfl rfl rfl TWBS7a.f32_7 ?_
                  refine TO.store1n (cs' := [.int .i64 n0.N, .int .i64 n0.S, .int .i64 n0.T, .slice (sb ob65) (n11 + 1) c66, .slice (sb ob204) (n161 + 1) c205, .slice none 0 0, .slice (sb ob214) (n171 + 1) c215, .slice (sb ob224) (n181 + 1) c225, .slice (sb ob193) n191 c192]) rfl rfl rfl rfl tk2 TWBS7a.n27 rfl rfl rfl ?_
                  refine TO.done ?_
                  refine X.seq_normal ?_
                  refine T.trim (AllF.cons (t := 1) rfl (AllF.cons (t := 2) rfl (AllF.cons (t := 5) rfl (AllF.cons (t := 6) rfl (AllF.cons (t := 7) rfl AllF.nil))))) ?_
                  obtain ⟨g233, H⟩ := gd_some H
                  refine T.regionL (ll := [0, 1, 2, 3, 4, 5]) rfl ?_
                  refine TO.fieldAddr0 rfl rfl rfl rfl TWBS7a.f32_8 ?_
                  refine TO.load1 rfl rfl rfl rfl TWBS7a.s30 mm0 rfl ?_
                  refine TO.buildSliceS [.bool false] [0] rfl rfl rfl rfl TWBS7a.l30 TWBS7a.n4 TWBS7a.z4 rfl rfl (by simp only [setAll, setCells, Value.cells, List.toList_toArray, List.getD_cons_zero, List.getD_cons_succ, List.set_cons_zero, List.set_cons_succ]; rfl) (by kernel_rfl) ?_; intro b231
                  refine TO.app (f := boolC) (s := 1) (xs := Back190) (ob := ob193) (j := j194) (ys := [true]) (fun _ => rfl) (fun _ => rfl) TWBS7ael30 g233 rfl rfl rfl rfl rfl tk11 hn195 hc196 hj197 hz198 (fun wc hwc => (hwc.rs (f := boolC) (s := 1) (xs := [true]) (j := ([])) (fun _ => rfl) mm0 rfl (Nat.le_refl _) someZ)) ?_; intro ob234 c235 j236 hc237 hj238 hz239
                  refine TO.fieldAddr0 rfl rfl rfl rfl TWBS7a.f32_8 ?_
                  refine TO.store1n (cs' := [.int .i64 n0.N, .int .i64 n0.S, .int .i64 n0.T, .slice (sb ob65) (n11 + 1) c66, .slice (sb ob204) (n161 + 1) c205, .slice none 0 0, .slice (sb ob214) (n171 + 1) c215, .slice (sb ob224) (n181 + 1) c225, .slice (sb ob234) (n191 + 1) c235]) rfl rfl rfl rfl tk2 TWBS7a.n30 rfl rfl rfl ?_
                  refine TO.done ?_
                  refine X.block_normal ?_
                  refine X.seq_normal ?_
                  obtain ⟨g241, H⟩ := gd_some H
                  refine T.regionL (ll := [0, 1, 2]) rfl ?_
                  refine TO.move rfl rfl rfl rfl ?_
                  refine TO.addG g241 rfl rfl rfl rfl rfl ?_
                  refine TO.assign rfl rfl rfl rfl ?_
                  refine TO.done ?_
                  have H := loop_next H C_2
                  exact X.againE22 n_2 (Head160 ++ ([(n0.Arcs.getD k112.toNat default).fr])) (n161 + 1) c205 ob204 j206 (Cap170 ++ ([0])) (n171 + 1) c215 ob214 j216 (Arc180 ++ ([k112])) (n181 + 1) c225 ob224 j226 (Back190 ++ ([true])) (n191 + 1) c235 ob234 j236 (k112 + 1) ⟨H, (lenApp hn165 rfl), hc207, hj208, hz209, (lenApp hn175 rfl), hc217, hj218, hz219, (lenApp hn185 rfl), hc227, hj228, hz229, (lenApp hn195 rfl), hc237, hj238, hz239⟩ (Nat.lt_succ_self _) (AllF.cons rfl (AllF.cons rfl (AllF.cons rfl (AllF.cons rfl (AllF.cons rfl AllF.nil))))) (Pick.cons tk9 (Pick.cons tk9 (Pick.cons tk0 (Pick.cons tk8 (Pick.cons tk6 (Pick.cons tk4 (Pick.cons tk2 (Pick.cons tk0 Pick.nil))))))))
                ·
                  refine T.condPF rfl g200 ?_
                  refine T.skip ?_
                  refine X.block_normal ?_
                  refine X.seq_normal ?_
                  obtain ⟨g242, H⟩ := gd_some H
                  refine T.regionL (ll := [0, 1, 2]) rfl ?_
                  refine TO.move rfl rfl rfl rfl ?_
                  refine TO.addG g242 rfl rfl rfl rfl rfl ?_
                  refine TO.assign rfl rfl rfl rfl ?_
                  refine TO.done ?_
                  have H := loop_next H C_2
                  exact X.againE22 n_2 Head160 n161 c162 ob163 j164 Cap170 n171 c172 ob173 j174 Arc180 n181 c182 ob183 j184 Back190 n191 c192 ob193 j194 (k112 + 1) ⟨H, hn165, hc166, hj167, hz168, hn175, hc176, hj177, hz178, hn185, hc186, hj187, hz188, hn195, hc196, hj197, hz198⟩ (Nat.lt_succ_self _) (AllF.cons rfl (AllF.cons rfl (AllF.cons rfl (AllF.cons rfl (AllF.cons rfl AllF.nil))))) (Pick.cons tk0 (Pick.cons tk0 (Pick.cons tk0 (Pick.cons tk0 (Pick.cons tk0 (Pick.cons tk0 (Pick.cons tk0 (Pick.cons tk0 Pick.nil))))))))
          ·
            refine T.condPF rfl g113 ?_
            refine T.exit ?_
            refine X.then_exit ?_
            have H := loop_exitE H C_2 ▸ K_2
            refine X.then_exit ?_
            refine X.block_here ?_
            refine X.block_normal ?_
            exact X.metE25 (First10 ++ ([(Head20.length : Int)])) (n11 + 1) c66 ob65 j67 Head72 n73 c74 ob75 j76 Cap82 n83 c84 ob85 j86 Arc92 n93 c94 ob95 j96 Back102 n103 c104 ob105 j106 ⟨H, (lenApp hn15 rfl), hc68, hj69, hz70, hn77, hc78, hj79, hz80, hn87, hc88, hj89, hz90, hn97, hc98, hj99, hz100, hn107, hc108, hj109, hz110⟩ (AllF.cons rfl (AllF.cons rfl (AllF.cons rfl (AllF.cons rfl AllF.nil)))) (Pick.cons tk0 (Pick.cons tk0 (Pick.cons tk0 (Pick.cons tk0 (Pick.cons tk0 (Pick.cons tk0 (Pick.cons tk0 (Pick.cons tk0 Pick.nil))))))))
        · rintro First243 n244 c245 ob246 j247 Head253 n254 c255 ob256 j257 Cap263 n264 c265 ob266 j267 Arc273 n274 c275 ob276 j277 Back283 n284 c285 ob286 j287 ⟨H, hn248, hc249, hj250, hz251, hn258, hc259, hj260, hz261, hn268, hc269, hj270, hz271, hn278, hc279, hj280, hz281, hn288, hc289, hj290, hz291⟩
          unfold m_acequiaref02_Make_j4 at H
          obtain ⟨g293, H⟩ := gd_some H
          refine T.regionL (ll := [0, 1, 2]) rfl ?_
          refine TO.move rfl rfl rfl rfl ?_
          refine TO.addG g293 rfl rfl rfl rfl rfl ?_
          refine TO.assign rfl rfl rfl rfl ?_
          refine TO.done ?_
          have H := loop_next H C_1
          exact X.againE27 n_1 First243 n244 c245 ob246 j247 Head253 n254 c255 ob256 j257 Cap263 n264 c265 ob266 j267 Arc273 n274 c275 ob276 j277 Back283 n284 c285 ob286 j287 (v60 + 1) ⟨H, hn248, hc249, hj250, hz251, hn258, hc259, hj260, hz261, hn268, hc269, hj270, hz271, hn278, hc279, hj280, hz281, hn288, hc289, hj290, hz291⟩ (Nat.lt_succ_self _) (AllF.cons rfl (AllF.cons rfl (AllF.cons rfl (AllF.cons rfl AllF.nil)))) (Pick.cons tk0 (Pick.cons tk0 (Pick.cons tk0 (Pick.cons tk0 (Pick.cons tk0 (Pick.cons tk0 (Pick.cons tk0 (Pick.cons tk0 Pick.nil))))))))
      ·
        refine T.condPF rfl g61 ?_
        refine T.exit ?_
        refine X.then_exit ?_
        have H := loop_exitE H C_1 ▸ K_1
        refine X.then_exit ?_
        refine X.block_here ?_
        exact X.metE25 First10 n11 c12 ob13 j14 Head20 n21 c22 ob23 j24 Cap30 n31 c32 ob33 j34 Arc40 n41 c42 ob43 j44 Back50 n51 c52 ob53 j54 ⟨H, hn15, hc16, hj17, hz18, hn25, hc26, hj27, hz28, hn35, hc36, hj37, hz38, hn45, hc46, hj47, hz48, hn55, hc56, hj57, hz58⟩ (AllF.cons rfl (AllF.cons rfl AllF.nil)) (Pick.cons tk1 (Pick.cons tk1 (Pick.cons tk1 (Pick.cons tk1 (Pick.cons tk1 (Pick.cons tk1 (Pick.cons tk1 Pick.nil)))))))
    · rintro First294 n295 c296 ob297 j298 Head304 n305 c306 ob307 j308 Cap314 n315 c316 ob317 j318 Arc324 n325 c326 ob327 j328 Back334 n335 c336 ob337 j338 ⟨H, hn299, hc300, hj301, hz302, hn309, hc310, hj311, hz312, hn319, hc320, hj321, hz322, hn329, hc330, hj331, hz332, hn339, hc340, hj341, hz342⟩
      unfold m_acequiaref02_Make_j5 at H
      refine T.seq ?_
      obtain ⟨g346, H⟩ := gd_some H
      refine T.regionL (ll := [0, 1, 2, 3, 4, 5, 6, 7, 8]) rfl ?_
      refine TO.fieldAddr0 rfl rfl rfl rfl TWBS7a.f32_3 ?_
      refine TO.load1 rfl rfl rfl rfl TWBS7a.s27 mm1 rfl ?_
      refine TO.fieldAddr0 rfl rfl rfl rfl TWBS7a.f32_4 ?_
      refine TO.load1 rfl rfl rfl rfl TWBS7a.s27 mm1 rfl ?_
      refine TO.lenX (xs := Head304) hn309 rfl rfl rfl rfl rfl TWBS7a.l27 ?_
      refine TO.buildSliceS [.int .i64 0] [0] rfl rfl rfl rfl TWBS7a.l27 TWBS7a.n3 TWBS7a.z3 rfl rfl (by simp only [setAll, setCells, Value.cells, List.toList_toArray, List.getD_cons_zero, List.getD_cons_succ, List.set_cons_zero, List.set_cons_succ]; rfl) (by kernel_rfl) ?_; intro b344
      refine TO.app (f := (intC .i64)) (s := 1) (xs := First294) (ob := ob297) (j := j298) (ys := [(Head304.length : Int)]) (fun _ => rfl) (fun _ => rfl) TWBS7ael27 g346 rfl rfl rfl rfl rfl tk3 hn299 hc300 hj301 hz302 (fun wc hwc => (hwc.rs (f := (intC .i64)) (s := 1) (xs := [(Head304.length : Int)]) (j := ([])) (fun _ => rfl) mm0 rfl (Nat.le_refl _) someZ)) ?_; intro ob347 c348 j349 hc350 hj351 hz352
      refine TO.fieldAddr0 rfl rfl rfl rfl TWBS7a.f32_3 ?_
      refine TO.store1n (cs' := [.int .i64 n0.N, .int .i64 n0.S, .int .i64 n0.T, .slice (sb ob347) (n295 + 1) c348, .slice (sb ob307) n305 c306, .slice none 0 0, .slice (sb ob317) n315 c316, .slice (sb ob327) n325 c326, .slice (sb ob337) n335 c336]) rfl rfl rfl rfl tk3 TWBS7a.n27 rfl rfl rfl ?_
      refine TO.done ?_
      refine X.seq_normal ?_
      refine T.trim (AllF.cons (t := 2) rfl (AllF.cons (t := 5) rfl AllF.nil)) ?_
      refine T.seq ?_
      refine T.seq ?_
      refine T.regionL (ll := [0]) rfl ?_
      refine TO.assign rfl rfl rfl rfl ?_
      refine TO.done ?_
      refine X.seq_normal ?_
      refine T.meetSE5 (fun (Rev406 : List Int) (n407 : Nat) (c408 : Nat) (ob409 : Option Nat) (j410 : List Value) => m_acequiaref02_Make_j10 n0 First294 Head304 Cap314 Arc324 Back334 Rev406 = some (r0, r1) ∧ Rev406.length = n407 ∧ n407 ≤ c408 ∧ j410.length = (c408 - n407) * 1 ∧ (ob409 = none → c408 = 0)) (fun (Rev406 : List Int) (n407 : Nat) (c408 : Nat) (ob409 : Option Nat) (j410 : List Value) => [(2, .pointer (some ⟨b3, 0, none⟩)), (5, .pointer (some ⟨b8, 0, none⟩))]) (fun (Rev406 : List Int) (n407 : Nat) (c408 : Nat) (ob409 : Option Nat) (j410 : List Value) => [(some b3, .cells #[.int .i64 0, .int .i64 0, .int .i64 0, .slice none 0 0, .slice none 0 0, .slice none 0 0, .slice none 0 0, .slice none 0 0, .slice none 0 0] 32 (0, 0)), (some b8, .cells #[.int .i64 n0.N, .int .i64 n0.S, .int .i64 n0.T, .slice (sb ob347) (n295 + 1) c348, .slice (sb ob307) n305 c306, .slice (sb ob409) n407 c408, .slice (sb ob317) n315 c316, .slice (sb ob327) n325 c326, .slice (sb ob337) n335 c336] 32 (0, 0)), (ob347, .cells (arr (intC .i64) (First294 ++ ([(Head304.length : Int)])) j349).toArray 3 (0, 0)), (ob307, .cells (arr (intC .i64) Head304 j308).toArray 3 (0, 0)), (ob409, .cells (arr (intC .i64) Rev406 j410).toArray 3 (0, 0)), (ob317, .cells (arr (intC .i64) Cap314 j318).toArray 2 (0, 0)), (ob327, .cells (arr (intC .i64) Arc324 j328).toArray 3 (0, 0)), (ob337, .cells (arr boolC Back334 j338).toArray 4 (0, 0))]) ?_ ?_
      ·
        refine T.block ?_
        obtain ⟨o_6, e_6, K_6⟩ := bd_some H
        refine T.loopE7 (fun (m_6 : Nat) (Rev354 : List Int) (n355 : Nat) (c356 : Nat) (ob357 : Option Nat) (j358 : List Value) (i364 : Int) => loopM (fun s => m_acequiaref02_Make_s6 Head304 Arc324 s.1 s.2) m_6 (Rev354, i364) = some o_6 ∧ Rev354.length = n355 ∧ n355 ≤ c356 ∧ j358.length = (c356 - n355) * 1 ∧ (ob357 = none → c356 = 0)) (fun (m_6 : Nat) (Rev354 : List Int) (n355 : Nat) (c356 : Nat) (ob357 : Option Nat) (j358 : List Value) (i364 : Int) => [(2, .pointer (some ⟨b3, 0, none⟩)), (5, .pointer (some ⟨b8, 0, none⟩)), (9, .int .i64 i364)]) (fun (m_6 : Nat) (Rev354 : List Int) (n355 : Nat) (c356 : Nat) (ob357 : Option Nat) (j358 : List Value) (i364 : Int) => [(some b3, .cells #[.int .i64 0, .int .i64 0, .int .i64 0, .slice none 0 0, .slice none 0 0, .slice none 0 0, .slice none 0 0, .slice none 0 0, .slice none 0 0] 32 (0, 0)), (some b8, .cells #[.int .i64 n0.N, .int .i64 n0.S, .int .i64 n0.T, .slice (sb ob347) (n295 + 1) c348, .slice (sb ob307) n305 c306, .slice (sb ob357) n355 c356, .slice (sb ob317) n315 c316, .slice (sb ob327) n325 c326, .slice (sb ob337) n335 c336] 32 (0, 0)), (ob347, .cells (arr (intC .i64) (First294 ++ ([(Head304.length : Int)])) j349).toArray 3 (0, 0)), (ob307, .cells (arr (intC .i64) Head304 j308).toArray 3 (0, 0)), (ob357, .cells (arr (intC .i64) Rev354 j358).toArray 3 (0, 0)), (ob317, .cells (arr (intC .i64) Cap314 j318).toArray 2 (0, 0)), (ob327, .cells (arr (intC .i64) Arc324 j328).toArray 3 (0, 0)), (ob337, .cells (arr boolC Back334 j338).toArray 4 (0, 0))]) (fun (m_6 : Nat) (Rev354 : List Int) (n355 : Nat) (c356 : Nat) (ob357 : Option Nat) (j358 : List Value) (i364 : Int) => m_6) FUEL ([]) 0 0 none ([]) 0 ⟨e_6, rfl, (Nat.le_refl _), (zeroJ 0 _), (fun _ => rfl)⟩ (AllF.cons rfl (AllF.cons rfl (AllF.cons rfl AllF.nil))) (Pick.cons tk3 (Pick.cons tk0 (Pick.cons tk0 (Pick.cons tk1 (Pick.none (Pick.cons tk1 (Pick.cons tk1 (Pick.cons tk1 Pick.nil)))))))) ?_
        rintro m_6 Rev354 n355 c356 ob357 j358 i364 ⟨H, hn359, hc360, hj361, hz362⟩
        obtain ⟨n_6, r_6, rfl, H, C_6⟩ := loopM_some H
        have H : m_acequiaref02_Make_s6 Head304 Arc324 Rev354 i364 = some r_6 := H
        unfold m_acequiaref02_Make_s6 at H
        refine T.seq ?_
        refine T.seq ?_
        refine T.regionL (ll := [0, 1, 2, 3, 4]) rfl ?_
        refine TO.move rfl rfl rfl rfl ?_
        refine TO.fieldAddr0 rfl rfl rfl rfl TWBS7a.f32_4 ?_
        refine TO.load1 rfl rfl rfl rfl TWBS7a.s27 mm1 rfl ?_
        refine TO.lenX (xs := Head304) hn309 rfl rfl rfl rfl rfl TWBS7a.l27 ?_
        refine TO.bin rfl rfl rfl rfl rfl rfl ?_
        refine TO.done ?_
        refine X.seq_normal ?_
        rcases ite_some H with ⟨g365, H⟩ | ⟨g365, H⟩
        ·
          refine T.condPT rfl g365 ?_
          refine T.skip ?_
          refine X.seq_normal ?_
          refine T.seq ?_
          refine T.meetSE5 (fun (Rev395 : List Int) (n396 : Nat) (c397 : Nat) (ob398 : Option Nat) (j399 : List Value) => m_acequiaref02_Make_j9 i364 Rev395 = some r_6 ∧ Rev395.length = n396 ∧ n396 ≤ c397 ∧ j399.length = (c397 - n396) * 1 ∧ (ob398 = none → c397 = 0)) (fun (Rev395 : List Int) (n396 : Nat) (c397 : Nat) (ob398 : Option Nat) (j399 : List Value) => [(2, .pointer (some ⟨b3, 0, none⟩)), (5, .pointer (some ⟨b8, 0, none⟩)), (9, .int .i64 i364)]) (fun (Rev395 : List Int) (n396 : Nat) (c397 : Nat) (ob398 : Option Nat) (j399 : List Value) => [(some b3, .cells #[.int .i64 0, .int .i64 0, .int .i64 0, .slice none 0 0, .slice none 0 0, .slice none 0 0, .slice none 0 0, .slice none 0 0, .slice none 0 0] 32 (0, 0)), (some b8, .cells #[.int .i64 n0.N, .int .i64 n0.S, .int .i64 n0.T, .slice (sb ob347) (n295 + 1) c348, .slice (sb ob307) n305 c306, .slice (sb ob398) n396 c397, .slice (sb ob317) n315 c316, .slice (sb ob327) n325 c326, .slice (sb ob337) n335 c336] 32 (0, 0)), (ob347, .cells (arr (intC .i64) (First294 ++ ([(Head304.length : Int)])) j349).toArray 3 (0, 0)), (ob307, .cells (arr (intC .i64) Head304 j308).toArray 3 (0, 0)), (ob398, .cells (arr (intC .i64) Rev395 j399).toArray 3 (0, 0)), (ob317, .cells (arr (intC .i64) Cap314 j318).toArray 2 (0, 0)), (ob327, .cells (arr (intC .i64) Arc324 j328).toArray 3 (0, 0)), (ob337, .cells (arr boolC Back334 j338).toArray 4 (0, 0))]) ?_ ?_
          ·
            refine T.block ?_
            refine T.seq ?_
            refine T.regionL (ll := [0]) rfl ?_
            refine TO.assign rfl rfl rfl rfl ?_
            refine TO.done ?_
            refine X.seq_normal ?_
            refine T.block ?_
            obtain ⟨o_7, e_7, K_7⟩ := bd_some H
            refine T.loopE7 (fun (m_7 : Nat) (Rev366 : List Int) (n367 : Nat) (c368 : Nat) (ob369 : Option Nat) (j370 : List Value) (j376 : Int) => loopM (fun s => m_acequiaref02_Make_s7 Head304 Arc324 i364 s.1 s.2) m_7 (Rev366, j376) = some o_7 ∧ Rev366.length = n367 ∧ n367 ≤ c368 ∧ j370.length = (c368 - n367) * 1 ∧ (ob369 = none → c368 = 0)) (fun (m_7 : Nat) (Rev366 : List Int) (n367 : Nat) (c368 : Nat) (ob369 : Option Nat) (j370 : List Value) (j376 : Int) => [(2, .pointer (some ⟨b3, 0, none⟩)), (5, .pointer (some ⟨b8, 0, none⟩)), (9, .int .i64 i364), (10, .int .i64 j376)]) (fun (m_7 : Nat) (Rev366 : List Int) (n367 : Nat) (c368 : Nat) (ob369 : Option Nat) (j370 : List Value) (j376 : Int) => [(some b3, .cells #[.int .i64 0, .int .i64 0, .int .i64 0, .slice none 0 0, .slice none 0 0, .slice none 0 0, .slice none 0 0, .slice none 0 0, .slice none 0 0] 32 (0, 0)), (some b8, .cells #[.int .i64 n0.N, .int .i64 n0.S, .int .i64 n0.T, .slice (sb ob347) (n295 + 1) c348, .slice (sb ob307) n305 c306, .slice (sb ob369) n367 c368, .slice (sb ob317) n315 c316, .slice (sb ob327) n325 c326, .slice (sb ob337) n335 c336] 32 (0, 0)), (ob347, .cells (arr (intC .i64) (First294 ++ ([(Head304.length : Int)])) j349).toArray 3 (0, 0)), (ob307, .cells (arr (intC .i64) Head304 j308).toArray 3 (0, 0)), (ob369, .cells (arr (intC .i64) Rev366 j370).toArray 3 (0, 0)), (ob317, .cells (arr (intC .i64) Cap314 j318).toArray 2 (0, 0)), (ob327, .cells (arr (intC .i64) Arc324 j328).toArray 3 (0, 0)), (ob337, .cells (arr boolC Back334 j338).toArray 4 (0, 0))]) (fun (m_7 : Nat) (Rev366 : List Int) (n367 : Nat) (c368 : Nat) (ob369 : Option Nat) (j370 : List Value) (j376 : Int) => m_7) FUEL Rev354 n355 c356 ob357 j358 0 ⟨e_7, hn359, hc360, hj361, hz362⟩ (AllF.cons rfl (AllF.cons rfl (AllF.cons rfl (AllF.cons rfl AllF.nil)))) (Pick.cons tk0 (Pick.cons tk0 (Pick.cons tk0 (Pick.cons tk0 (Pick.cons tk0 (Pick.cons tk0 (Pick.cons tk0 (Pick.cons tk0 Pick.nil)))))))) ?_
            rintro m_7 Rev366 n367 c368 ob369 j370 j376 ⟨H, hn371, hc372, hj373, hz374⟩
            obtain ⟨n_7, r_7, rfl, H, C_7⟩ := loopM_some H
            have H : m_acequiaref02_Make_s7 Head304 Arc324 i364 Rev366 j376 = some r_7 := H
            unfold m_acequiaref02_Make_s7 at H
            refine T.seq ?_
            refine T.seq ?_
            refine T.regionL (ll := [0, 1, 2, 3, 4]) rfl ?_
            refine TO.move rfl rfl rfl rfl ?_
            refine TO.fieldAddr0 rfl rfl rfl rfl TWBS7a.f32_4 ?_
            refine TO.load1 rfl rfl rfl rfl TWBS7a.s27 mm1 rfl ?_
            refine TO.lenX (xs := Head304) hn309 rfl rfl rfl rfl rfl TWBS7a.l27 ?_
            refine TO.bin rfl rfl rfl rfl rfl rfl ?_
            refine TO.done ?_
            refine X.seq_normal ?_
            rcases ite_some H with ⟨g377, H⟩ | ⟨g377, H⟩
            ·
              refine T.condPT rfl g377 ?_
              refine T.skip ?_
              refine X.seq_normal ?_
              refine T.seq ?_
              refine T.block ?_
              refine T.seq ?_
              refine T.meetSE1 (fun (x381 : Bool) => m_acequiaref02_Make_j8 Rev366 j376 x381 = some r_7) (fun (x381 : Bool) => [(2, .pointer (some ⟨b3, 0, none⟩)), (5, .pointer (some ⟨b8, 0, none⟩)), (9, .int .i64 i364), (10, .int .i64 j376), (148, .bool x381)]) (fun (x381 : Bool) => [(some b3, .cells #[.int .i64 0, .int .i64 0, .int .i64 0, .slice none 0 0, .slice none 0 0, .slice none 0 0, .slice none 0 0, .slice none 0 0, .slice none 0 0] 32 (0, 0)), (some b8, .cells #[.int .i64 n0.N, .int .i64 n0.S, .int .i64 n0.T, .slice (sb ob347) (n295 + 1) c348, .slice (sb ob307) n305 c306, .slice (sb ob369) n367 c368, .slice (sb ob317) n315 c316, .slice (sb ob327) n325 c326, .slice (sb ob337) n335 c336] 32 (0, 0)), (ob347, .cells (arr (intC .i64) (First294 ++ ([(Head304.length : Int)])) j349).toArray 3 (0, 0)), (ob307, .cells (arr (intC .i64) Head304 j308).toArray 3 (0, 0)), (ob369, .cells (arr (intC .i64) Rev366 j370).toArray 3 (0, 0)), (ob317, .cells (arr (intC .i64) Cap314 j318).toArray 2 (0, 0)), (ob327, .cells (arr (intC .i64) Arc324 j328).toArray 3 (0, 0)), (ob337, .cells (arr boolC Back334 j338).toArray 4 (0, 0))]) ?_ ?_
              ·
                obtain ⟨g378, H⟩ := gd_some H
                obtain ⟨g379, H⟩ := gd_some H
                rcases ite_some H with ⟨g380, H⟩ | ⟨g380, H⟩
                ·
                  refine T.drawS 14 [0, 1, 2, 3, 4, 5, 6, 7, 8, 9, 10, 11, 12, 13] rfl mixed (by kernel_rfl) (by kernel_rfl) rfl (by kernel_rfl) ?_
                  refine TQ.fieldAddr0 rfl rfl rfl rfl TWBS7a.f32_7 ?_
                  refine TQ.load1 rfl rfl rfl rfl TWBS7a.s27 mm1 rfl ?_
                  refine TQ.move rfl rfl rfl rfl ?_
                  refine TQ.ixV hz332 hc330 hn329 g378 rfl rfl rfl rfl rfl TWBS7a.l27 TWBS7a.n3 ?_
                  refine TQ.ldIV hz332 hc330 hn329 g378 rfl rfl rfl rfl TWBS7a.s3 mm6 ?_
                  refine TQ.fieldAddr0 rfl rfl rfl rfl TWBS7a.f32_7 ?_
                  refine TQ.load1 rfl rfl rfl rfl TWBS7a.s27 mm1 rfl ?_
                  refine TQ.move rfl rfl rfl rfl ?_
                  refine TQ.ixV hz332 hc330 hn329 g379 rfl rfl rfl rfl rfl TWBS7a.l27 TWBS7a.n3 ?_
                  refine TQ.ldIV hz332 hc330 hn329 g379 rfl rfl rfl rfl TWBS7a.s3 mm6 ?_
                  refine TQ.bin rfl rfl rfl rfl rfl rfl ?_
                  refine TQ.move rfl rfl rfl rfl ?_
                  refine TQ.decB (t := 144) (b' := true) rfl (decide_eq_true g380) ?_
                  refine TQ.move rfl rfl rfl rfl ?_
                  refine TQ.move rfl rfl rfl rfl ?_
                  refine TQ.tail [14, 15] rfl rfl ?_
                  refine TO.bin rfl rfl rfl rfl rfl rfl ?_
                  refine TO.pickT rfl rfl rfl rfl rfl ?_
                  refine TO.done ?_
                  exact X.metE1 (decide (i364 ≠ j376)) H (AllF.cons rfl (AllF.cons rfl (AllF.cons rfl (AllF.cons rfl (AllF.cons rfl AllF.nil))))) (Pick.cons tk0 (Pick.cons tk0 (Pick.cons tk0 (Pick.cons tk0 (Pick.cons tk0 (Pick.cons tk0 (Pick.cons tk0 (Pick.cons tk0 Pick.nil))))))))
                ·
                  refine T.drawS 14 [0, 1, 2, 3, 4, 5, 6, 7, 8, 9, 10, 11, 12, 13] rfl mixed (by kernel_rfl) (by kernel_rfl) rfl (by kernel_rfl) ?_
                  refine TQ.fieldAddr0 rfl rfl rfl rfl TWBS7a.f32_7 ?_
                  refine TQ.load1 rfl rfl rfl rfl TWBS7a.s27 mm1 rfl ?_
                  refine TQ.move rfl rfl rfl rfl ?_
                  refine TQ.ixV hz332 hc330 hn329 g378 rfl rfl rfl rfl rfl TWBS7a.l27 TWBS7a.n3 ?_
                  refine TQ.ldIV hz332 hc330 hn329 g378 rfl rfl rfl rfl TWBS7a.s3 mm6 ?_
                  refine TQ.fieldAddr0 rfl rfl rfl rfl TWBS7a.f32_7 ?_
                  refine TQ.load1 rfl rfl rfl rfl TWBS7a.s27 mm1 rfl ?_
                  refine TQ.move rfl rfl rfl rfl ?_
                  refine TQ.ixV hz332 hc330 hn329 g379 rfl rfl rfl rfl rfl TWBS7a.l27 TWBS7a.n3 ?_
                  refine TQ.ldIV hz332 hc330 hn329 g379 rfl rfl rfl rfl TWBS7a.s3 mm6 ?_
                  refine TQ.bin rfl rfl rfl rfl rfl rfl ?_
                  refine TQ.move rfl rfl rfl rfl ?_
                  refine TQ.decB (t := 144) (b' := false) rfl (decide_eq_false g380) ?_
                  refine TQ.shut rfl rfl rfl rfl ?_
                  refine TQ.shut rfl rfl rfl rfl ?_
                  refine TQ.tail [14, 15] rfl rfl ?_
                  refine TO.shut rfl rfl rfl rfl ?_
                  refine TO.pickF rfl rfl rfl rfl rfl ?_
                  refine TO.done ?_
                  exact X.metE1 false H (AllF.cons rfl (AllF.cons rfl (AllF.cons rfl (AllF.cons rfl (AllF.cons rfl AllF.nil))))) (Pick.cons tk0 (Pick.cons tk0 (Pick.cons tk0 (Pick.cons tk0 (Pick.cons tk0 (Pick.cons tk0 (Pick.cons tk0 (Pick.cons tk0 Pick.nil))))))))
              · rintro x381 H
                unfold m_acequiaref02_Make_j8 at H
                rcases ite_some H with ⟨g382, H⟩ | ⟨g382, H⟩
                ·
                  refine T.condT rfl g382 ?_
                  obtain ⟨g385, H⟩ := gd_some H
                  refine T.regionL (ll := [0, 1, 2, 3, 4, 5, 6]) rfl ?_
                  refine TO.fieldAddr0 rfl rfl rfl rfl TWBS7a.f32_5 ?_
                  refine TO.load1 rfl rfl rfl rfl TWBS7a.s27 mm1 rfl ?_
                  refine TO.move rfl rfl rfl rfl ?_
                  refine TO.buildSliceS [.int .i64 0] [0] rfl rfl rfl rfl TWBS7a.l27 TWBS7a.n3 TWBS7a.z3 rfl rfl (by simp only [setAll, setCells, Value.cells, List.toList_toArray, List.getD_cons_zero, List.getD_cons_succ, List.set_cons_zero, List.set_cons_succ]; rfl) (by kernel_rfl) ?_; intro b383
                  refine TO.app (f := (intC .i64)) (s := 1) (xs := Rev366) (ob := ob369) (j := j370) (ys := [j376]) (fun _ => rfl) (fun _ => rfl) TWBS7ael27 g385 rfl rfl rfl rfl rfl tk5 hn371 hc372 hj373 hz374 (fun wc hwc => (hwc.rs (f := (intC .i64)) (s := 1) (xs := [j376]) (j := ([])) (fun _ => rfl) mm0 rfl (Nat.le_refl _) someZ)) ?_; intro ob386 c387 j388 hc389 hj390 hz391
                  refine TO.fieldAddr0 rfl rfl rfl rfl TWBS7a.f32_5 ?_
                  refine TO.store1n (cs' := [.int .i64 n0.N, .int .i64 n0.S, .int .i64 n0.T, .slice (sb ob347) (n295 + 1) c348, .slice (sb ob307) n305 c306, .slice (sb ob386) (n367 + 1) c387, .slice (sb ob317) n315 c316, .slice (sb ob327) n325 c326, .slice (sb ob337) n335 c336]) rfl rfl rfl rfl tk3 TWBS7a.n27 rfl rfl rfl ?_
                  refine TO.done ?_
                  refine X.block_normal ?_
                  refine X.seq_normal ?_
                  obtain ⟨g393, H⟩ := gd_some H
                  refine T.regionL (ll := [0, 1, 2]) rfl ?_
                  refine TO.move rfl rfl rfl rfl ?_
                  refine TO.addG g393 rfl rfl rfl rfl rfl ?_
                  refine TO.assign rfl rfl rfl rfl ?_
                  refine TO.done ?_
                  have H := loop_next H C_7
                  exact X.againE7 n_7 (Rev366 ++ ([j376])) (n367 + 1) c387 ob386 j388 (j376 + 1) ⟨H, (lenApp hn371 rfl), hc389, hj390, hz391⟩ (Nat.lt_succ_self _) (AllF.cons rfl (AllF.cons rfl (AllF.cons rfl (AllF.cons rfl AllF.nil)))) (Pick.cons tk3 (Pick.cons tk0 (Pick.cons tk2 (Pick.cons tk2 (Pick.cons tk0 (Pick.cons tk1 (Pick.cons tk1 (Pick.cons tk1 Pick.nil))))))))
                ·
                  refine T.condF rfl (Bool.eq_false_iff.2 g382) ?_
                  refine T.skip ?_
                  refine X.block_normal ?_
                  refine X.seq_normal ?_
                  obtain ⟨g394, H⟩ := gd_some H
                  refine T.regionL (ll := [0, 1, 2]) rfl ?_
                  refine TO.move rfl rfl rfl rfl ?_
                  refine TO.addG g394 rfl rfl rfl rfl rfl ?_
                  refine TO.assign rfl rfl rfl rfl ?_
                  refine TO.done ?_
                  have H := loop_next H C_7
                  exact X.againE7 n_7 Rev366 n367 c368 ob369 j370 (j376 + 1) ⟨H, hn371, hc372, hj373, hz374⟩ (Nat.lt_succ_self _) (AllF.cons rfl (AllF.cons rfl (AllF.cons rfl (AllF.cons rfl AllF.nil)))) (Pick.cons tk0 (Pick.cons tk0 (Pick.cons tk0 (Pick.cons tk0 (Pick.cons tk0 (Pick.cons tk0 (Pick.cons tk0 (Pick.cons tk0 Pick.nil))))))))
            ·
              refine T.condPF rfl g377 ?_
              refine T.exit ?_
              refine X.then_exit ?_
              have H := loop_exitE H C_7 ▸ K_7
              refine X.then_exit ?_
              refine X.block_here ?_
              refine X.block_normal ?_
              exact X.metE5 Rev366 n367 c368 ob369 j370 ⟨H, hn371, hc372, hj373, hz374⟩ (AllF.cons rfl (AllF.cons rfl (AllF.cons rfl AllF.nil))) (Pick.cons tk0 (Pick.cons tk0 (Pick.cons tk0 (Pick.cons tk0 (Pick.cons tk0 (Pick.cons tk0 (Pick.cons tk0 (Pick.cons tk0 Pick.nil))))))))
          · rintro Rev395 n396 c397 ob398 j399 ⟨H, hn400, hc401, hj402, hz403⟩
            unfold m_acequiaref02_Make_j9 at H
            obtain ⟨g405, H⟩ := gd_some H
            refine T.regionL (ll := [0, 1, 2]) rfl ?_
            refine TO.move rfl rfl rfl rfl ?_
            refine TO.addG g405 rfl rfl rfl rfl rfl ?_
            refine TO.assign rfl rfl rfl rfl ?_
            refine TO.done ?_
            have H := loop_next H C_6
            exact X.againE7 n_6 Rev395 n396 c397 ob398 j399 (i364 + 1) ⟨H, hn400, hc401, hj402, hz403⟩ (Nat.lt_succ_self _) (AllF.cons rfl (AllF.cons rfl (AllF.cons rfl AllF.nil))) (Pick.cons tk0 (Pick.cons tk0 (Pick.cons tk0 (Pick.cons tk0 (Pick.cons tk0 (Pick.cons tk0 (Pick.cons tk0 (Pick.cons tk0 Pick.nil))))))))
        ·
          refine T.condPF rfl g365 ?_
          refine T.exit ?_
          refine X.then_exit ?_
          have H := loop_exitE H C_6 ▸ K_6
          refine X.then_exit ?_
          refine X.block_here ?_
          exact X.metE5 Rev354 n355 c356 ob357 j358 ⟨H, hn359, hc360, hj361, hz362⟩ (AllF.cons rfl (AllF.cons rfl AllF.nil)) (Pick.cons tk0 (Pick.cons tk0 (Pick.cons tk0 (Pick.cons tk0 (Pick.cons tk0 (Pick.cons tk0 (Pick.cons tk0 (Pick.cons tk0 Pick.nil))))))))
      · rintro Rev406 n407 c408 ob409 j410 ⟨H, hn411, hc412, hj413, hz414⟩
        unfold m_acequiaref02_Make_j10 at H
        refine T.seq ?_
        refine T.regionL (ll := [0, 1, 2]) rfl ?_
        refine TO.loadA rfl rfl rfl rfl TWBS7a.a32 mm1 rfl ?_
        refine TO.storeA rfl rfl rfl rfl tk0 TWBS7a.n32 rfl rfl rfl ?_
        refine TO.assign rfl rfl rfl rfl ?_
        refine TO.done ?_
        refine X.seq_normal ?_
        refine T.ret ?_
        obtain ⟨rfl, rfl⟩ := ret2 H
        exact X.ret2 rfl rfl rfl rfl (Res.cellA rfl TWBS7a.a32 mm0 rfl) (Res.tmp rfl) (Pick.cons tk2 (Pick.cons tk2 (Pick.cons tk2 (Pick.cons tk2 (Pick.cons tk2 (Pick.cons tk2 Pick.nil)))))) ⟨ob347, (n295 + 1), c348, j349, ob307, n305, c306, j308, ob409, n407, c408, j410, ob317, n315, c316, j318, ob327, n325, c326, j328, ob337, n335, c336, j338, rfl, rfl, (lenApp hn299 rfl), hc350, hj351, hz352, hn309, hc310, hj311, hz312, hn411, hc412, hj413, hz414, hn319, hc320, hj321, hz322, hn329, hc330, hj331, hz332, hn339, hc340, hj341, hz342⟩
/-- acequia/acequialaw07.awake -/
theorem w_acequialaw07_awake (w : World) {r0 : Bool} (H : m_acequialaw07_awake = some r0) : Fnc Try.prog 33 #[] w [] (fun v N => v = .bool r0 ∧ N = []) := by
  unfold m_acequialaw07_awake at H
  refine Fnc.enter (vs := []) Try.func33 rfl rfl (Inv.refl w) ?_
  refine T.seq ?_
  refine T.regionL (ll := [0]) rfl ?_
  refine TO.assign rfl rfl rfl rfl ?_
  refine TO.done ?_
  refine X.seq_normal ?_
  refine T.seq ?_
  obtain ⟨r1, e2, H⟩ := bd_some H
  obtain ⟨⟨r12, r13⟩, e14, H⟩ := bd_some H
  refine T.regionL (ll := [0, 1, 2, 3, 4, 5, 6, 7]) rfl ?_
  refine TO.callX TWBS7a.c74 rfl rfl rfl rfl (fun wc hwc => w_acequialaw01_Four  wc  e2) ?_
  rintro _ _ ⟨ob3, n4, c5, j6, rfl, rfl, hn7, hc8, hj9, hz10⟩
  refine TO.callX TWBS7a.c15 rfl rfl rfl rfl (fun wc hwc => w_acequiaref02_Make (n0 := r1) wc (hwc.rs (f := arcC) (s := 3) (xs := r1.Arcs) (j := j6) (fun _ => rfl) mm0 hn7 hc8 hz10) e14) ?_
  rintro _ _ ⟨ob15, n16, c17, j18, ob19, n20, c21, j22, ob23, n24, c25, j26, ob27, n28, c29, j30, ob31, n32, c33, j34, ob35, n36, c37, j38, rfl, rfl, hn39, hc40, hj41, hz42, hn43, hc44, hj45, hz46, hn47, hc48, hj49, hz50, hn51, hc52, hj53, hz54, hn55, hc56, hj57, hz58, hn59, hc60, hj61, hz62⟩
  refine TO.move rfl rfl rfl rfl ?_
  refine TO.extract rfl rfl rfl rfl rfl ?_
  refine TO.extract rfl rfl rfl rfl rfl ?_
  refine TO.allocA rfl rfl rfl TWBS7a.z32 ?_; intro b69
  refine TO.storeA rfl rfl rfl rfl tk0 TWBS7a.n32 rfl rfl rfl ?_
  refine TO.assign rfl rfl rfl rfl ?_
  refine TO.done ?_
  refine X.seq_normal ?_
  refine T.seq ?_
  obtain ⟨r71, e72, H⟩ := bd_some H
  refine T.regionL (ll := [0, 1, 2, 3]) rfl ?_
  refine TO.loadA rfl rfl rfl rfl TWBS7a.a32 mm0 rfl ?_
  refine TO.callX TWBS7a.c17 rfl rfl rfl rfl (fun wc hwc => w_pre_Begin (c0 := r12) wc (hwc.rs (f := (intC .i64)) (s := 1) (xs := r12.First) (j := j18) (fun _ => rfl) mm1 hn39 hc40 hz42) (hwc.rs (f := (intC .i64)) (s := 1) (xs := r12.Head) (j := j22) (fun _ => rfl) mm2 hn43 hc44 hz46) (hwc.rs (f := (intC .i64)) (s := 1) (xs := r12.Rev) (j := j26) (fun _ => rfl) mm3 hn47 hc48 hz50) (hwc.rs (f := (intC .i64)) (s := 1) (xs := r12.Cap) (j := j30) (fun _ => rfl) mm4 hn51 hc52 hz54) (hwc.rs (f := (intC .i64)) (s := 1) (xs := r12.Arc) (j := j34) (fun _ => rfl) mm5 hn55 hc56 hz58) (hwc.rs (f := boolC) (s := 1) (xs := r12.Back) (j := j38) (fun _ => rfl) mm6 hn59 hc60 hz62) e72) ?_
  rintro _ _ ⟨ob73, n74, c75, j76, ob77, n78, c79, j80, ob81, n82, c83, j84, rfl, rfl, hn85, hc86, hj87, hz88, hn89, hc90, hj91, hz92, hn93, hc94, hj95, hz96⟩
  refine TO.allocA rfl rfl rfl TWBS7a.z29 ?_; intro b100
  refine TO.storeA rfl rfl rfl rfl tk0 TWBS7a.n29 rfl rfl rfl ?_
  refine TO.done ?_
  refine X.seq_normal ?_
  refine T.trim (AllF.cons (t := 1) rfl (AllF.cons (t := 2) rfl (AllF.cons (t := 3) rfl AllF.nil))) ?_
  refine T.seq ?_
  obtain ⟨⟨r102, r103⟩, e104, H⟩ := bd_some H
  refine T.regionL (ll := [0, 1, 2, 3, 4, 5, 6, 7]) rfl ?_
  refine TO.loadA rfl rfl rfl rfl TWBS7a.a32 mm4 rfl ?_
  refine TO.loadA rfl rfl rfl rfl TWBS7a.a29 mm0 rfl ?_
  refine TO.callX TWBS7a.c23 rfl rfl rfl rfl (fun wc hwc => w_pre_May (c0 := r12) (p1 := r71) wc (hwc.rs (f := (intC .i64)) (s := 1) (xs := r12.First) (j := j18) (fun _ => rfl) mm5 hn39 hc40 hz42) (hwc.rs (f := (intC .i64)) (s := 1) (xs := r12.Head) (j := j22) (fun _ => rfl) mm6 hn43 hc44 hz46) (hwc.rs (f := (intC .i64)) (s := 1) (xs := r12.Rev) (j := j26) (fun _ => rfl) mm7 hn47 hc48 hz50) (hwc.rs (f := (intC .i64)) (s := 1) (xs := r12.Cap) (j := j30) (fun _ => rfl) mm8 hn51 hc52 hz54) (hwc.rs (f := (intC .i64)) (s := 1) (xs := r12.Arc) (j := j34) (fun _ => rfl) mm9 hn55 hc56 hz58) (hwc.rs (f := boolC) (s := 1) (xs := r12.Back) (j := j38) (fun _ => rfl) mm10 hn59 hc60 hz62) (hwc.rs (f := (intC .i64)) (s := 1) (xs := r71.Res) (j := j76) (fun _ => rfl) mm1 hn85 hc86 hz88) (hwc.rs (f := (intC .i64)) (s := 1) (xs := r71.Ex) (j := j80) (fun _ => rfl) mm2 hn89 hc90 hz92) (hwc.rs (f := (intC .i64)) (s := 1) (xs := r71.H) (j := j84) (fun _ => rfl) mm3 hn93 hc94 hz96) e104) ?_
  rintro _ _ ⟨ob105, n106, c107, j108, ob109, n110, c111, j112, rfl, rfl, hn113, hc114, hj115, hz116, hn117, hc118, hj119, hz120⟩
  refine TO.move rfl rfl rfl rfl ?_
  refine TO.extract rfl rfl rfl rfl rfl ?_
  refine TO.extract rfl rfl rfl rfl rfl ?_
  refine TO.assign rfl rfl rfl rfl ?_
  refine TO.assign rfl rfl rfl rfl ?_
  refine TO.done ?_
  refine X.seq_normal ?_
  refine T.seq ?_
  refine T.seq ?_
  rcases ite_some H with ⟨g123, H⟩ | ⟨g123, H⟩
  ·
    refine T.regionL (ll := [0, 1, 2, 3, 4, 5, 6, 7, 8, 9, 10, 11, 12, 13, 14, 15, 16, 17, 18, 19, 20, 21, 22, 23, 24, 25, 26, 27, 28, 29, 30, 31, 32, 33]) rfl ?_
    refine TO.move rfl rfl rfl rfl ?_
    refine TO.bin rfl rfl rfl rfl rfl rfl ?_
    refine TO.move rfl rfl rfl rfl ?_
    refine TO.decB (t := 31) (b' := true) rfl (decide_eq_true g123) ?_
    refine TO.shut rfl rfl rfl rfl ?_
    refine TO.shut rfl rfl rfl rfl ?_
    refine TO.shut rfl rfl rfl rfl ?_
    refine TO.shut rfl rfl rfl rfl ?_
    refine TO.shut rfl rfl rfl rfl ?_
    refine TO.pickT rfl rfl rfl rfl rfl ?_
    refine TO.move rfl rfl rfl rfl ?_
    refine TO.shut rfl rfl rfl rfl ?_
    refine TO.shut rfl rfl rfl rfl ?_
    refine TO.shut rfl rfl rfl rfl ?_
    refine TO.pickT rfl rfl rfl rfl rfl ?_
    refine TO.move rfl rfl rfl rfl ?_
    refine TO.shut rfl rfl rfl rfl ?_
    refine TO.shut rfl rfl rfl rfl ?_
    refine TO.shut rfl rfl rfl rfl ?_
    refine TO.shut rfl rfl rfl rfl ?_
    refine TO.pickT rfl rfl rfl rfl rfl ?_
    refine TO.move rfl rfl rfl rfl ?_
    refine TO.shut rfl rfl rfl rfl ?_
    refine TO.shut rfl rfl rfl rfl ?_
    refine TO.shut rfl rfl rfl rfl ?_
    refine TO.shut rfl rfl rfl rfl ?_
    refine TO.shut rfl rfl rfl rfl ?_
    refine TO.shut rfl rfl rfl rfl ?_
    refine TO.pickT rfl rfl rfl rfl rfl ?_
    refine TO.move rfl rfl rfl rfl ?_
    refine TO.shut rfl rfl rfl rfl ?_
    refine TO.shut rfl rfl rfl rfl ?_
    refine TO.shut rfl rfl rfl rfl ?_
    refine TO.shut rfl rfl rfl rfl ?_
    refine TO.pickT rfl rfl rfl rfl rfl ?_
    refine TO.done ?_
    refine X.seq_normal ?_
    refine T.trim (AllF.cons (t := 1) rfl (AllF.cons (t := 3) rfl (AllF.cons (t := 62) rfl AllF.nil))) ?_
    refine T.condT rfl rfl ?_
    refine T.seq ?_
    refine T.regionL (ll := [0]) rfl ?_
    refine TO.assign rfl rfl rfl rfl ?_
    refine TO.done ?_
    refine X.seq_normal ?_
    refine T.ret ?_
    refine X.then_ret ?_
    obtain rfl := ret1 H
    exact X.ret1 rfl rfl rfl rfl (Res.tmp rfl) Pick.nil ⟨rfl, rfl⟩
  ·
    obtain ⟨r126, e127, H⟩ := bd_some H
    refine T.regionL (ll := [0, 1, 2, 3, 4, 5, 6, 7, 8, 9, 10, 11, 12, 13, 14, 15, 16, 17, 18, 19, 20, 21, 22, 23, 24, 25, 26, 27, 28, 29, 30, 31, 32, 33]) rfl ?_
    refine TO.move rfl rfl rfl rfl ?_
    refine TO.bin rfl rfl rfl rfl rfl rfl ?_
    refine TO.move rfl rfl rfl rfl ?_
    refine TO.decB (t := 31) (b' := false) rfl (decide_eq_false g123) ?_
    refine TO.fieldAddr0 rfl rfl rfl rfl TWBS7a.f29_1 ?_
    refine TO.load1 rfl rfl rfl rfl TWBS7a.s26 mm2 rfl ?_
    refine TO.buildSliceS [.int .i64 0, .int .i64 0, .int .i64 0, .int .i64 0] [0, 1, 2, 3] rfl rfl rfl rfl TWBS7a.l26 TWBS7a.n2 TWBS7a.z2 rfl rfl (by simp only [setAll, setCells, Value.cells, List.toList_toArray, List.getD_cons_zero, List.getD_cons_succ, List.set_cons_zero, List.set_cons_succ]; rfl) (by kernel_rfl) ?_; intro b124
    refine TO.callX TWBS7a.c39 rfl rfl rfl rfl (fun wc hwc => w_acequialow_Longs (a0 := r71.Ex) (b1 := [(-9), 5, 4, 0]) wc (hwc.rs (f := (intC .i64)) (s := 1) (xs := r71.Ex) (j := j80) (fun _ => rfl) mm5 hn89 hc90 hz92) (hwc.rs (f := (intC .i64)) (s := 1) (xs := [(-9), 5, 4, 0]) (j := ([])) (fun _ => rfl) mm0 rfl (Nat.le_refl _) someZ) e127) ?_
    rintro _ _ ⟨rfl, rfl⟩
    refine TO.not rfl rfl rfl rfl ?_
    refine TO.pickF rfl rfl rfl rfl rfl ?_
    refine TO.move rfl rfl rfl rfl ?_
    refine TO.join [10, 11, 12, 13] [14, 15, 16, 17, 18, 19, 20, 21, 22, 23, 24, 25, 26, 27, 28, 29, 30, 31, 32, 33] rfl 42 (fun b129 => m_acequialaw07_awake_j1 r12 r71 r103 b129 = some r0) [(1, .pointer (some ⟨b69, 0, none⟩)), (3, .pointer (some ⟨b100, 0, none⟩)), (5, .slice (sb ob109) n110 c111)] ?_ ?_
    ·
      rcases ite_some H with ⟨g128, H⟩ | ⟨g128, H⟩
      ·
        refine TO.decB (t := 38) (b' := true) rfl g128 ?_
        refine TO.shut rfl rfl rfl rfl ?_
        refine TO.shut rfl rfl rfl rfl ?_
        refine TO.shut rfl rfl rfl rfl ?_
        refine TO.pickT rfl rfl rfl rfl rfl ?_
        refine TO.done ?_
        exact X.jn (b := true) H (AllF.cons rfl (AllF.cons rfl (AllF.cons rfl (AllF.cons rfl AllF.nil))))
      ·
        refine TO.decB (t := 38) (b' := false) rfl (Bool.eq_false_iff.2 g128) ?_
        refine TO.move rfl rfl rfl rfl ?_
        refine TO.lenX (xs := r102) hn113 rfl rfl rfl rfl rfl TWBS7a.l27 ?_
        refine TO.bin rfl rfl rfl rfl rfl rfl ?_
        refine TO.pickF rfl rfl rfl rfl rfl ?_
        refine TO.done ?_
        exact X.jn (b := (decide ((r102.length : Int) ≠ 0))) H (AllF.cons rfl (AllF.cons rfl (AllF.cons rfl (AllF.cons rfl AllF.nil))))
    · rintro b129 H
      unfold m_acequialaw07_awake_j1 at H
      rcases ite_some H with ⟨g130, H⟩ | ⟨g130, H⟩
      ·
        refine TO.move rfl rfl rfl rfl ?_
        refine TO.decB (t := 43) (b' := true) rfl g130 ?_
        refine TO.shut rfl rfl rfl rfl ?_
        refine TO.shut rfl rfl rfl rfl ?_
        refine TO.shut rfl rfl rfl rfl ?_
        refine TO.shut rfl rfl rfl rfl ?_
        refine TO.pickT rfl rfl rfl rfl rfl ?_
        refine TO.move rfl rfl rfl rfl ?_
        refine TO.shut rfl rfl rfl rfl ?_
        refine TO.shut rfl rfl rfl rfl ?_
        refine TO.shut rfl rfl rfl rfl ?_
        refine TO.shut rfl rfl rfl rfl ?_
        refine TO.shut rfl rfl rfl rfl ?_
        refine TO.shut rfl rfl rfl rfl ?_
        refine TO.pickT rfl rfl rfl rfl rfl ?_
        refine TO.move rfl rfl rfl rfl ?_
        refine TO.shut rfl rfl rfl rfl ?_
        refine TO.shut rfl rfl rfl rfl ?_
        refine TO.shut rfl rfl rfl rfl ?_
        refine TO.shut rfl rfl rfl rfl ?_
        refine TO.pickT rfl rfl rfl rfl rfl ?_
        refine TO.done ?_
        refine X.seq_normal ?_
        refine T.trim (AllF.cons (t := 1) rfl (AllF.cons (t := 3) rfl (AllF.cons (t := 62) rfl AllF.nil))) ?_
        refine T.condT rfl rfl ?_
        refine T.seq ?_
        refine T.regionL (ll := [0]) rfl ?_
        refine TO.assign rfl rfl rfl rfl ?_
        refine TO.done ?_
        refine X.seq_normal ?_
        refine T.ret ?_
        refine X.then_ret ?_
        obtain rfl := ret1 H
        exact X.ret1 rfl rfl rfl rfl (Res.tmp rfl) Pick.nil ⟨rfl, rfl⟩
      ·
        obtain ⟨r133, e134, H⟩ := bd_some H
        rcases ite_some H with ⟨g135, H⟩ | ⟨g135, H⟩
        ·
          refine TO.move rfl rfl rfl rfl ?_
          refine TO.decB (t := 43) (b' := false) rfl (Bool.eq_false_iff.2 g130) ?_
          refine TO.move rfl rfl rfl rfl ?_
          refine TO.buildSliceS [.int .i64 0, .int .i64 0] [0, 1] rfl rfl rfl rfl TWBS7a.l27 TWBS7a.n3 TWBS7a.z3 rfl rfl (by simp only [setAll, setCells, Value.cells, List.toList_toArray, List.getD_cons_zero, List.getD_cons_succ, List.set_cons_zero, List.set_cons_succ]; rfl) (by kernel_rfl) ?_; intro b131
          refine TO.callX TWBS7a.c25 rfl rfl rfl rfl (fun wc hwc => w_acequialow_Ints (a0 := r103) (b1 := [1, 2]) wc (hwc.rs (f := (intC .i64)) (s := 1) (xs := r103) (j := j112) (fun _ => rfl) mm3 hn117 hc118 hz120) (hwc.rs (f := (intC .i64)) (s := 1) (xs := [1, 2]) (j := ([])) (fun _ => rfl) mm0 rfl (Nat.le_refl _) someZ) e134) ?_
          rintro _ _ ⟨rfl, rfl⟩
          refine TO.not rfl rfl rfl rfl ?_
          refine TO.pickF rfl rfl rfl rfl rfl ?_
          refine TO.move rfl rfl rfl rfl ?_
          refine TO.decB (t := 49) (b' := true) rfl g135 ?_
          refine TO.shut rfl rfl rfl rfl ?_
          refine TO.shut rfl rfl rfl rfl ?_
          refine TO.shut rfl rfl rfl rfl ?_
          refine TO.shut rfl rfl rfl rfl ?_
          refine TO.shut rfl rfl rfl rfl ?_
          refine TO.shut rfl rfl rfl rfl ?_
          refine TO.pickT rfl rfl rfl rfl rfl ?_
          refine TO.move rfl rfl rfl rfl ?_
          refine TO.shut rfl rfl rfl rfl ?_
          refine TO.shut rfl rfl rfl rfl ?_
          refine TO.shut rfl rfl rfl rfl ?_
          refine TO.shut rfl rfl rfl rfl ?_
          refine TO.pickT rfl rfl rfl rfl rfl ?_
          refine TO.done ?_
          refine X.seq_normal ?_
          refine T.trim (AllF.cons (t := 1) rfl (AllF.cons (t := 3) rfl (AllF.cons (t := 62) rfl AllF.nil))) ?_
          refine T.condT rfl rfl ?_
          refine T.seq ?_
          refine T.regionL (ll := [0]) rfl ?_
          refine TO.assign rfl rfl rfl rfl ?_
          refine TO.done ?_
          refine X.seq_normal ?_
          refine T.ret ?_
          refine X.then_ret ?_
          obtain rfl := ret1 H
          exact X.ret1 rfl rfl rfl rfl (Res.tmp rfl) Pick.nil ⟨rfl, rfl⟩
        ·
          obtain ⟨r136, e137, H⟩ := bd_some H
          obtain ⟨r147, e148, H⟩ := bd_some H
          refine TO.move rfl rfl rfl rfl ?_
          refine TO.decB (t := 43) (b' := false) rfl (Bool.eq_false_iff.2 g130) ?_
          refine TO.move rfl rfl rfl rfl ?_
          refine TO.buildSliceS [.int .i64 0, .int .i64 0] [0, 1] rfl rfl rfl rfl TWBS7a.l27 TWBS7a.n3 TWBS7a.z3 rfl rfl (by simp only [setAll, setCells, Value.cells, List.toList_toArray, List.getD_cons_zero, List.getD_cons_succ, List.set_cons_zero, List.set_cons_succ]; rfl) (by kernel_rfl) ?_; intro b131
          refine TO.callX TWBS7a.c25 rfl rfl rfl rfl (fun wc hwc => w_acequialow_Ints (a0 := r103) (b1 := [1, 2]) wc (hwc.rs (f := (intC .i64)) (s := 1) (xs := r103) (j := j112) (fun _ => rfl) mm3 hn117 hc118 hz120) (hwc.rs (f := (intC .i64)) (s := 1) (xs := [1, 2]) (j := ([])) (fun _ => rfl) mm0 rfl (Nat.le_refl _) someZ) e134) ?_
          rintro _ _ ⟨rfl, rfl⟩
          refine TO.not rfl rfl rfl rfl ?_
          refine TO.pickF rfl rfl rfl rfl rfl ?_
          refine TO.move rfl rfl rfl rfl ?_
          refine TO.decB (t := 49) (b' := false) rfl (Bool.eq_false_iff.2 g135) ?_
          refine TO.loadA rfl rfl rfl rfl TWBS7a.a32 mm8 rfl ?_
          refine TO.loadA rfl rfl rfl rfl TWBS7a.a29 mm4 rfl ?_
          refine TO.callX TWBS7a.c26 rfl rfl rfl rfl (fun wc hwc => w_pre_Active (c0 := r12) (p1 := r71) wc (hwc.rs (f := (intC .i64)) (s := 1) (xs := r12.First) (j := j18) (fun _ => rfl) mm9 hn39 hc40 hz42) (hwc.rs (f := (intC .i64)) (s := 1) (xs := r12.Head) (j := j22) (fun _ => rfl) mm10 hn43 hc44 hz46) (hwc.rs (f := (intC .i64)) (s := 1) (xs := r12.Rev) (j := j26) (fun _ => rfl) mm11 hn47 hc48 hz50) (hwc.rs (f := (intC .i64)) (s := 1) (xs := r12.Cap) (j := j30) (fun _ => rfl) mm12 hn51 hc52 hz54) (hwc.rs (f := (intC .i64)) (s := 1) (xs := r12.Arc) (j := j34) (fun _ => rfl) mm13 hn55 hc56 hz58) (hwc.rs (f := boolC) (s := 1) (xs := r12.Back) (j := j38) (fun _ => rfl) mm14 hn59 hc60 hz62) (hwc.rs (f := (intC .i64)) (s := 1) (xs := r71.Res) (j := j76) (fun _ => rfl) mm5 hn85 hc86 hz88) (hwc.rs (f := (intC .i64)) (s := 1) (xs := r71.Ex) (j := j80) (fun _ => rfl) mm6 hn89 hc90 hz92) (hwc.rs (f := (intC .i64)) (s := 1) (xs := r71.H) (j := j84) (fun _ => rfl) mm7 hn93 hc94 hz96) e137) ?_
          rintro _ _ ⟨ob138, n139, c140, j141, rfl, rfl, hn142, hc143, hj144, hz145⟩
          refine TO.move rfl rfl rfl rfl ?_
          refine TO.callX TWBS7a.c25 rfl rfl rfl rfl (fun wc hwc => w_acequialow_Ints (a0 := r136) (b1 := r103) wc (hwc.rs (f := (intC .i64)) (s := 1) (xs := r136) (j := j141) (fun _ => rfl) mm0 hn142 hc143 hz145) (hwc.rs (f := (intC .i64)) (s := 1) (xs := r103) (j := j112) (fun _ => rfl) mm4 hn117 hc118 hz120) e148) ?_
          rintro _ _ ⟨rfl, rfl⟩
          refine TO.not rfl rfl rfl rfl ?_
          refine TO.pickF rfl rfl rfl rfl rfl ?_
          refine TO.move rfl rfl rfl rfl ?_
          refine TO.join [29, 30, 31, 32, 33] [] rfl 62 (fun b152 => m_acequialaw07_awake_j2 r12 r71 b152 = some r0) [(1, .pointer (some ⟨b69, 0, none⟩)), (3, .pointer (some ⟨b100, 0, none⟩))] ?_ ?_
          ·
            rcases ite_some H with ⟨g149, H⟩ | ⟨g149, H⟩
            ·
              refine TO.decB (t := 57) (b' := true) rfl g149 ?_
              refine TO.shut rfl rfl rfl rfl ?_
              refine TO.shut rfl rfl rfl rfl ?_
              refine TO.shut rfl rfl rfl rfl ?_
              refine TO.shut rfl rfl rfl rfl ?_
              refine TO.pickT rfl rfl rfl rfl rfl ?_
              refine TO.done ?_
              exact X.jn (b := true) H (AllF.cons rfl (AllF.cons rfl (AllF.cons rfl AllF.nil)))
            ·
              obtain ⟨r150, e151, H⟩ := bd_some H
              refine TO.decB (t := 57) (b' := false) rfl (Bool.eq_false_iff.2 g149) ?_
              refine TO.loadA rfl rfl rfl rfl TWBS7a.a32 mm9 rfl ?_
              refine TO.loadA rfl rfl rfl rfl TWBS7a.a29 mm5 rfl ?_
              refine TO.callX TWBS7a.c19 rfl rfl rfl rfl (fun wc hwc => w_pre_Right (c0 := r12) (p1 := r71) wc (hwc.rs (f := (intC .i64)) (s := 1) (xs := r12.First) (j := j18) (fun _ => rfl) mm10 hn39 hc40 hz42) (hwc.rs (f := (intC .i64)) (s := 1) (xs := r12.Head) (j := j22) (fun _ => rfl) mm11 hn43 hc44 hz46) (hwc.rs (f := (intC .i64)) (s := 1) (xs := r12.Rev) (j := j26) (fun _ => rfl) mm12 hn47 hc48 hz50) (hwc.rs (f := (intC .i64)) (s := 1) (xs := r12.Cap) (j := j30) (fun _ => rfl) mm13 hn51 hc52 hz54) (hwc.rs (f := (intC .i64)) (s := 1) (xs := r12.Arc) (j := j34) (fun _ => rfl) mm14 hn55 hc56 hz58) (hwc.rs (f := boolC) (s := 1) (xs := r12.Back) (j := j38) (fun _ => rfl) mm15 hn59 hc60 hz62) (hwc.rs (f := (intC .i64)) (s := 1) (xs := r71.Res) (j := j76) (fun _ => rfl) mm6 hn85 hc86 hz88) (hwc.rs (f := (intC .i64)) (s := 1) (xs := r71.Ex) (j := j80) (fun _ => rfl) mm7 hn89 hc90 hz92) (hwc.rs (f := (intC .i64)) (s := 1) (xs := r71.H) (j := j84) (fun _ => rfl) mm8 hn93 hc94 hz96) e151) ?_
              rintro _ _ ⟨rfl, rfl⟩
              refine TO.not rfl rfl rfl rfl ?_
              refine TO.pickF rfl rfl rfl rfl rfl ?_
              refine TO.done ?_
              exact X.jn (b := (!r150)) H (AllF.cons rfl (AllF.cons rfl (AllF.cons rfl AllF.nil)))
          · rintro b152 H
            unfold m_acequialaw07_awake_j2 at H
            refine TO.done ?_
            refine X.seq_normal ?_
            rcases ite_some H with ⟨g153, H⟩ | ⟨g153, H⟩
            ·
              refine T.condT rfl g153 ?_
              refine T.seq ?_
              refine T.regionL (ll := [0]) rfl ?_
              refine TO.assign rfl rfl rfl rfl ?_
              refine TO.done ?_
              refine X.seq_normal ?_
              refine T.ret ?_
              refine X.then_ret ?_
              obtain rfl := ret1 H
              exact X.ret1 rfl rfl rfl rfl (Res.tmp rfl) Pick.nil ⟨rfl, rfl⟩
            ·
              refine T.condF rfl (Bool.eq_false_iff.2 g153) ?_
              refine T.skip ?_
              refine X.seq_normal ?_
              refine T.seq ?_
              obtain ⟨⟨r154, r155⟩, e156, H⟩ := bd_some H
              refine T.regionL (ll := [0, 1, 2, 3, 4, 5, 6, 7, 8]) rfl ?_
              refine TO.loadA rfl rfl rfl rfl TWBS7a.a32 mm9 rfl ?_
              refine TO.loadA rfl rfl rfl rfl TWBS7a.a29 mm5 rfl ?_
              refine TO.callX TWBS7a.c30 rfl rfl rfl rfl (fun wc hwc => w_pre_Lift (c0 := r12) (p1 := r71) (u2 := 1) wc (hwc.rs (f := (intC .i64)) (s := 1) (xs := r12.First) (j := j18) (fun _ => rfl) mm10 hn39 hc40 hz42) (hwc.rs (f := (intC .i64)) (s := 1) (xs := r12.Head) (j := j22) (fun _ => rfl) mm11 hn43 hc44 hz46) (hwc.rs (f := (intC .i64)) (s := 1) (xs := r12.Rev) (j := j26) (fun _ => rfl) mm12 hn47 hc48 hz50) (hwc.rs (f := (intC .i64)) (s := 1) (xs := r12.Cap) (j := j30) (fun _ => rfl) mm13 hn51 hc52 hz54) (hwc.rs (f := (intC .i64)) (s := 1) (xs := r12.Arc) (j := j34) (fun _ => rfl) mm14 hn55 hc56 hz58) (hwc.rs (f := boolC) (s := 1) (xs := r12.Back) (j := j38) (fun _ => rfl) mm15 hn59 hc60 hz62) (hwc.rs (f := (intC .i64)) (s := 1) (xs := r71.Res) (j := j76) (fun _ => rfl) mm6 hn85 hc86 hz88) (hwc.rs (f := (intC .i64)) (s := 1) (xs := r71.Ex) (j := j80) (fun _ => rfl) mm7 hn89 hc90 hz92) (hwc.rs (f := (intC .i64)) (s := 1) (xs := r71.H) (j := j84) (fun _ => rfl) mm8 hn93 hc94 hz96) e156) ?_
              rintro _ _ ⟨ob157, n158, c159, j160, ob161, n162, c163, j164, ob165, n166, c167, j168, rfl, rfl, hn169, hc170, hj171, hz172, hn173, hc174, hj175, hz176, hn177, hc178, hj179, hz180⟩
              refine TO.move rfl rfl rfl rfl ?_
              refine TO.extract rfl rfl rfl rfl rfl ?_
              refine TO.extract rfl rfl rfl rfl rfl ?_
              refine TO.allocA rfl rfl rfl TWBS7a.z29 ?_; intro b184
              refine TO.storeA rfl rfl rfl rfl tk0 TWBS7a.n29 rfl rfl rfl ?_
              refine TO.assign rfl rfl rfl rfl ?_
              refine TO.done ?_
              refine X.seq_normal ?_
              refine T.trim (AllF.cons (t := 1) rfl (AllF.cons (t := 6) rfl (AllF.cons (t := 7) rfl AllF.nil))) ?_
              refine T.seq ?_
              obtain ⟨⟨r186, r187⟩, e188, H⟩ := bd_some H
              refine T.regionL (ll := [0, 1, 2, 3, 4, 5, 6, 7]) rfl ?_
              refine TO.loadA rfl rfl rfl rfl TWBS7a.a32 mm13 rfl ?_
              refine TO.loadA rfl rfl rfl rfl TWBS7a.a29 mm0 rfl ?_
              refine TO.callX TWBS7a.c23 rfl rfl rfl rfl (fun wc hwc => w_pre_May (c0 := r12) (p1 := r154) wc (hwc.rs (f := (intC .i64)) (s := 1) (xs := r12.First) (j := j18) (fun _ => rfl) mm14 hn39 hc40 hz42) (hwc.rs (f := (intC .i64)) (s := 1) (xs := r12.Head) (j := j22) (fun _ => rfl) mm15 hn43 hc44 hz46) (hwc.rs (f := (intC .i64)) (s := 1) (xs := r12.Rev) (j := j26) (fun _ => rfl) mm16 hn47 hc48 hz50) (hwc.rs (f := (intC .i64)) (s := 1) (xs := r12.Cap) (j := j30) (fun _ => rfl) mm17 hn51 hc52 hz54) (hwc.rs (f := (intC .i64)) (s := 1) (xs := r12.Arc) (j := j34) (fun _ => rfl) mm18 hn55 hc56 hz58) (hwc.rs (f := boolC) (s := 1) (xs := r12.Back) (j := j38) (fun _ => rfl) mm19 hn59 hc60 hz62) (hwc.rs (f := (intC .i64)) (s := 1) (xs := r154.Res) (j := j160) (fun _ => rfl) mm1 hn169 hc170 hz172) (hwc.rs (f := (intC .i64)) (s := 1) (xs := r154.Ex) (j := j164) (fun _ => rfl) mm2 hn173 hc174 hz176) (hwc.rs (f := (intC .i64)) (s := 1) (xs := r154.H) (j := j168) (fun _ => rfl) mm3 hn177 hc178 hz180) e188) ?_
              rintro _ _ ⟨ob189, n190, c191, j192, ob193, n194, c195, j196, rfl, rfl, hn197, hc198, hj199, hz200, hn201, hc202, hj203, hz204⟩
              refine TO.move rfl rfl rfl rfl ?_
              refine TO.extract rfl rfl rfl rfl rfl ?_
              refine TO.extract rfl rfl rfl rfl rfl ?_
              refine TO.assign rfl rfl rfl rfl ?_
              refine TO.assign rfl rfl rfl rfl ?_
              refine TO.done ?_
              refine X.seq_normal ?_
              refine T.seq ?_
              refine T.seq ?_
              rcases ite_some H with ⟨g207, H⟩ | ⟨g207, H⟩
              ·
                refine T.regionL (ll := [0, 1, 2, 3, 4, 5, 6, 7, 8, 9, 10, 11, 12, 13, 14]) rfl ?_
                refine TO.move rfl rfl rfl rfl ?_
                refine TO.bin rfl rfl rfl rfl rfl rfl ?_
                refine TO.move rfl rfl rfl rfl ?_
                refine TO.decB (t := 77) (b' := true) rfl (decide_eq_true g207) ?_
                refine TO.shut rfl rfl rfl rfl ?_
                refine TO.shut rfl rfl rfl rfl ?_
                refine TO.shut rfl rfl rfl rfl ?_
                refine TO.shut rfl rfl rfl rfl ?_
                refine TO.shut rfl rfl rfl rfl ?_
                refine TO.pickT rfl rfl rfl rfl rfl ?_
                refine TO.move rfl rfl rfl rfl ?_
                refine TO.shut rfl rfl rfl rfl ?_
                refine TO.shut rfl rfl rfl rfl ?_
                refine TO.shut rfl rfl rfl rfl ?_
                refine TO.shut rfl rfl rfl rfl ?_
                refine TO.pickT rfl rfl rfl rfl rfl ?_
                refine TO.done ?_
                refine X.seq_normal ?_
                refine T.trim (AllF.cons (t := 1) rfl (AllF.cons (t := 6) rfl (AllF.cons (t := 89) rfl AllF.nil))) ?_
                refine T.condT rfl rfl ?_
                refine T.seq ?_
                refine T.regionL (ll := [0]) rfl ?_
                refine TO.assign rfl rfl rfl rfl ?_
                refine TO.done ?_
                refine X.seq_normal ?_
                refine T.ret ?_
                refine X.then_ret ?_
                obtain rfl := ret1 H
                exact X.ret1 rfl rfl rfl rfl (Res.tmp rfl) Pick.nil ⟨rfl, rfl⟩
              ·
                obtain ⟨g208, H⟩ := gd_some H
                rcases ite_some H with ⟨g209, H⟩ | ⟨g209, H⟩
                ·
                  refine T.regionL (ll := [0, 1, 2, 3, 4, 5, 6, 7, 8, 9, 10, 11, 12, 13, 14]) rfl ?_
                  refine TO.move rfl rfl rfl rfl ?_
                  refine TO.bin rfl rfl rfl rfl rfl rfl ?_
                  refine TO.move rfl rfl rfl rfl ?_
                  refine TO.decB (t := 77) (b' := false) rfl (decide_eq_false g207) ?_
                  refine TO.fieldAddr0 rfl rfl rfl rfl TWBS7a.f29_2 ?_
                  refine TO.load1 rfl rfl rfl rfl TWBS7a.s27 mm2 rfl ?_
                  refine TO.ixV hz180 hc178 hn177 g208 rfl rfl rfl rfl rfl TWBS7a.l27 TWBS7a.n3 ?_
                  refine TO.ldIV hz180 hc178 hn177 g208 rfl rfl rfl rfl TWBS7a.s3 mm5 ?_
                  refine TO.bin rfl rfl rfl rfl rfl rfl ?_
                  refine TO.pickF rfl rfl rfl rfl rfl ?_
                  refine TO.move rfl rfl rfl rfl ?_
                  refine TO.decB (t := 84) (b' := true) rfl (decide_eq_true g209) ?_
                  refine TO.shut rfl rfl rfl rfl ?_
                  refine TO.shut rfl rfl rfl rfl ?_
                  refine TO.shut rfl rfl rfl rfl ?_
                  refine TO.shut rfl rfl rfl rfl ?_
                  refine TO.pickT rfl rfl rfl rfl rfl ?_
                  refine TO.done ?_
                  refine X.seq_normal ?_
                  refine T.trim (AllF.cons (t := 1) rfl (AllF.cons (t := 6) rfl (AllF.cons (t := 89) rfl AllF.nil))) ?_
                  refine T.condT rfl rfl ?_
                  refine T.seq ?_
                  refine T.regionL (ll := [0]) rfl ?_
                  refine TO.assign rfl rfl rfl rfl ?_
                  refine TO.done ?_
                  refine X.seq_normal ?_
                  refine T.ret ?_
                  refine X.then_ret ?_
                  obtain rfl := ret1 H
                  exact X.ret1 rfl rfl rfl rfl (Res.tmp rfl) Pick.nil ⟨rfl, rfl⟩
                ·
                  obtain ⟨r212, e213, H⟩ := bd_some H
                  refine T.regionL (ll := [0, 1, 2, 3, 4, 5, 6, 7, 8, 9, 10, 11, 12, 13, 14]) rfl ?_
                  refine TO.move rfl rfl rfl rfl ?_
                  refine TO.bin rfl rfl rfl rfl rfl rfl ?_
                  refine TO.move rfl rfl rfl rfl ?_
                  refine TO.decB (t := 77) (b' := false) rfl (decide_eq_false g207) ?_
                  refine TO.fieldAddr0 rfl rfl rfl rfl TWBS7a.f29_2 ?_
                  refine TO.load1 rfl rfl rfl rfl TWBS7a.s27 mm2 rfl ?_
                  refine TO.ixV hz180 hc178 hn177 g208 rfl rfl rfl rfl rfl TWBS7a.l27 TWBS7a.n3 ?_
                  refine TO.ldIV hz180 hc178 hn177 g208 rfl rfl rfl rfl TWBS7a.s3 mm5 ?_
                  refine TO.bin rfl rfl rfl rfl rfl rfl ?_
                  refine TO.pickF rfl rfl rfl rfl rfl ?_
                  refine TO.move rfl rfl rfl rfl ?_
                  refine TO.decB (t := 84) (b' := false) rfl (decide_eq_false g209) ?_
                  refine TO.move rfl rfl rfl rfl ?_
                  refine TO.buildSliceS [.int .i64 0, .int .i64 0] [0, 1] rfl rfl rfl rfl TWBS7a.l27 TWBS7a.n3 TWBS7a.z3 rfl rfl (by simp only [setAll, setCells, Value.cells, List.toList_toArray, List.getD_cons_zero, List.getD_cons_succ, List.set_cons_zero, List.set_cons_succ]; rfl) (by kernel_rfl) ?_; intro b210
                  refine TO.callX TWBS7a.c25 rfl rfl rfl rfl (fun wc hwc => w_acequialow_Ints (a0 := r186) (b1 := [3, 4]) wc (hwc.rs (f := (intC .i64)) (s := 1) (xs := r186) (j := j192) (fun _ => rfl) mm1 hn197 hc198 hz200) (hwc.rs (f := (intC .i64)) (s := 1) (xs := [3, 4]) (j := ([])) (fun _ => rfl) mm0 rfl (Nat.le_refl _) someZ) e213) ?_
                  rintro _ _ ⟨rfl, rfl⟩
                  refine TO.not rfl rfl rfl rfl ?_
                  refine TO.pickF rfl rfl rfl rfl rfl ?_
                  refine TO.done ?_
                  refine X.seq_normal ?_
                  refine T.trim (AllF.cons (t := 1) rfl (AllF.cons (t := 6) rfl (AllF.cons (t := 89) rfl AllF.nil))) ?_
                  rcases ite_some H with ⟨g214, H⟩ | ⟨g214, H⟩
                  ·
                    refine T.condT rfl g214 ?_
                    refine T.seq ?_
                    refine T.regionL (ll := [0]) rfl ?_
                    refine TO.assign rfl rfl rfl rfl ?_
                    refine TO.done ?_
                    refine X.seq_normal ?_
                    refine T.ret ?_
                    refine X.then_ret ?_
                    obtain rfl := ret1 H
                    exact X.ret1 rfl rfl rfl rfl (Res.tmp rfl) Pick.nil ⟨rfl, rfl⟩
                  ·
                    refine T.condF rfl (Bool.eq_false_iff.2 g214) ?_
                    refine T.skip ?_
                    refine X.seq_normal ?_
                    refine T.seq ?_
                    obtain ⟨⟨r215, r216, r217⟩, e218, H⟩ := bd_some H
                    refine T.regionL (ll := [0, 1, 2, 3, 4, 5, 6, 7, 8, 9, 10]) rfl ?_
                    refine TO.loadA rfl rfl rfl rfl TWBS7a.a32 mm16 rfl ?_
                    refine TO.loadA rfl rfl rfl rfl TWBS7a.a29 mm3 rfl ?_
                    refine TO.callX TWBS7a.c28 rfl rfl rfl rfl (fun wc hwc => w_pre_Push (c0 := r12) (p1 := r154) (a2 := 3) wc (hwc.rs (f := (intC .i64)) (s := 1) (xs := r12.First) (j := j18) (fun _ => rfl) mm17 hn39 hc40 hz42) (hwc.rs (f := (intC .i64)) (s := 1) (xs := r12.Head) (j := j22) (fun _ => rfl) mm18 hn43 hc44 hz46) (hwc.rs (f := (intC .i64)) (s := 1) (xs := r12.Rev) (j := j26) (fun _ => rfl) mm19 hn47 hc48 hz50) (hwc.rs (f := (intC .i64)) (s := 1) (xs := r12.Cap) (j := j30) (fun _ => rfl) mm20 hn51 hc52 hz54) (hwc.rs (f := (intC .i64)) (s := 1) (xs := r12.Arc) (j := j34) (fun _ => rfl) mm21 hn55 hc56 hz58) (hwc.rs (f := boolC) (s := 1) (xs := r12.Back) (j := j38) (fun _ => rfl) mm22 hn59 hc60 hz62) (hwc.rs (f := (intC .i64)) (s := 1) (xs := r154.Res) (j := j160) (fun _ => rfl) mm4 hn169 hc170 hz172) (hwc.rs (f := (intC .i64)) (s := 1) (xs := r154.Ex) (j := j164) (fun _ => rfl) mm5 hn173 hc174 hz176) (hwc.rs (f := (intC .i64)) (s := 1) (xs := r154.H) (j := j168) (fun _ => rfl) mm6 hn177 hc178 hz180) e218) ?_
                    rintro _ _ ⟨ob219, n220, c221, j222, ob223, n224, c225, j226, ob227, n228, c229, j230, rfl, rfl, hn231, hc232, hj233, hz234, hn235, hc236, hj237, hz238, hn239, hc240, hj241, hz242⟩
                    refine TO.move rfl rfl rfl rfl ?_
                    refine TO.extract rfl rfl rfl rfl rfl ?_
                    refine TO.extract rfl rfl rfl rfl rfl ?_
                    refine TO.extract rfl rfl rfl rfl rfl ?_
                    refine TO.allocA rfl rfl rfl TWBS7a.z29 ?_; intro b246
                    refine TO.storeA rfl rfl rfl rfl tk0 TWBS7a.n29 rfl rfl rfl ?_
                    refine TO.assign rfl rfl rfl rfl ?_
                    refine TO.assign rfl rfl rfl rfl ?_
                    refine TO.done ?_
                    refine X.seq_normal ?_
                    refine T.trim (AllF.cons (t := 1) rfl (AllF.cons (t := 10) rfl (AllF.cons (t := 11) rfl (AllF.cons (t := 12) rfl AllF.nil)))) ?_
                    refine T.seq ?_
                    obtain ⟨⟨r248, r249, r250⟩, e251, H⟩ := bd_some H
                    refine T.regionL (ll := [0, 1, 2, 3, 4, 5, 6, 7, 8, 9, 10]) rfl ?_
                    refine TO.loadA rfl rfl rfl rfl TWBS7a.a32 mm20 rfl ?_
                    refine TO.loadA rfl rfl rfl rfl TWBS7a.a29 mm0 rfl ?_
                    refine TO.callX TWBS7a.c28 rfl rfl rfl rfl (fun wc hwc => w_pre_Push (c0 := r12) (p1 := r215) (a2 := 4) wc (hwc.rs (f := (intC .i64)) (s := 1) (xs := r12.First) (j := j18) (fun _ => rfl) mm21 hn39 hc40 hz42) (hwc.rs (f := (intC .i64)) (s := 1) (xs := r12.Head) (j := j22) (fun _ => rfl) mm22 hn43 hc44 hz46) (hwc.rs (f := (intC .i64)) (s := 1) (xs := r12.Rev) (j := j26) (fun _ => rfl) mm23 hn47 hc48 hz50) (hwc.rs (f := (intC .i64)) (s := 1) (xs := r12.Cap) (j := j30) (fun _ => rfl) mm24 hn51 hc52 hz54) (hwc.rs (f := (intC .i64)) (s := 1) (xs := r12.Arc) (j := j34) (fun _ => rfl) mm25 hn55 hc56 hz58) (hwc.rs (f := boolC) (s := 1) (xs := r12.Back) (j := j38) (fun _ => rfl) mm26 hn59 hc60 hz62) (hwc.rs (f := (intC .i64)) (s := 1) (xs := r215.Res) (j := j222) (fun _ => rfl) mm1 hn231 hc232 hz234) (hwc.rs (f := (intC .i64)) (s := 1) (xs := r215.Ex) (j := j226) (fun _ => rfl) mm2 hn235 hc236 hz238) (hwc.rs (f := (intC .i64)) (s := 1) (xs := r215.H) (j := j230) (fun _ => rfl) mm3 hn239 hc240 hz242) e251) ?_
                    rintro _ _ ⟨ob252, n253, c254, j255, ob256, n257, c258, j259, ob260, n261, c262, j263, rfl, rfl, hn264, hc265, hj266, hz267, hn268, hc269, hj270, hz271, hn272, hc273, hj274, hz275⟩
                    refine TO.move rfl rfl rfl rfl ?_
                    refine TO.extract rfl rfl rfl rfl rfl ?_
                    refine TO.extract rfl rfl rfl rfl rfl ?_
                    refine TO.extract rfl rfl rfl rfl rfl ?_
                    refine TO.allocA rfl rfl rfl TWBS7a.z29 ?_; intro b279
                    refine TO.storeA rfl rfl rfl rfl tk0 TWBS7a.n29 rfl rfl rfl ?_
                    refine TO.assign rfl rfl rfl rfl ?_
                    refine TO.assign rfl rfl rfl rfl ?_
                    refine TO.done ?_
                    refine X.seq_normal ?_
                    refine T.trim (AllF.cons (t := 11) rfl (AllF.cons (t := 12) rfl (AllF.cons (t := 14) rfl (AllF.cons (t := 15) rfl AllF.nil)))) ?_
                    refine T.seq ?_
                    rcases ite_some H with ⟨g281, H⟩ | ⟨g281, H⟩
                    ·
                      rcases ite_some H with ⟨g282, H⟩ | ⟨g282, H⟩
                      ·
                        rcases ite_some H with ⟨g283, H⟩ | ⟨g283, H⟩
                        ·
                          refine T.regionL (ll := [0, 1, 2, 3, 4, 5, 6, 7, 8, 9, 10, 11, 12, 13, 14]) rfl ?_
                          refine TO.move rfl rfl rfl rfl ?_
                          refine TO.bin rfl rfl rfl rfl rfl rfl ?_
                          refine TO.move rfl rfl rfl rfl ?_
                          refine TO.decB (t := 106) (b' := true) rfl (decide_eq_true g281) ?_
                          refine TO.move rfl rfl rfl rfl ?_
                          refine TO.bin rfl rfl rfl rfl rfl rfl ?_
                          refine TO.pickT rfl rfl rfl rfl rfl ?_
                          refine TO.move rfl rfl rfl rfl ?_
                          refine TO.decB (t := 110) (b' := true) rfl (decide_eq_true g282) ?_
                          refine TO.move rfl rfl rfl rfl ?_
                          refine TO.bin rfl rfl rfl rfl rfl rfl ?_
                          refine TO.pickT rfl rfl rfl rfl rfl ?_
                          refine TO.move rfl rfl rfl rfl ?_
                          refine TO.decB (t := 114) (b' := true) rfl (decide_eq_true g283) ?_
                          refine TO.move rfl rfl rfl rfl ?_
                          refine TO.bin rfl rfl rfl rfl rfl rfl ?_
                          refine TO.pickT rfl rfl rfl rfl rfl ?_
                          refine TO.assign rfl rfl rfl rfl ?_
                          refine TO.done ?_
                          refine X.seq_normal ?_
                          refine T.trim (AllF.cons (t := 0) rfl AllF.nil) ?_
                          refine T.ret ?_
                          obtain rfl := ret1 H
                          exact X.ret1 rfl rfl rfl rfl (Res.tmp rfl) Pick.nil ⟨rfl, rfl⟩
                        ·
                          refine T.regionL (ll := [0, 1, 2, 3, 4, 5, 6, 7, 8, 9, 10, 11, 12, 13, 14]) rfl ?_
                          refine TO.move rfl rfl rfl rfl ?_
                          refine TO.bin rfl rfl rfl rfl rfl rfl ?_
                          refine TO.move rfl rfl rfl rfl ?_
                          refine TO.decB (t := 106) (b' := true) rfl (decide_eq_true g281) ?_
                          refine TO.move rfl rfl rfl rfl ?_
                          refine TO.bin rfl rfl rfl rfl rfl rfl ?_
                          refine TO.pickT rfl rfl rfl rfl rfl ?_
                          refine TO.move rfl rfl rfl rfl ?_
                          refine TO.decB (t := 110) (b' := true) rfl (decide_eq_true g282) ?_
                          refine TO.move rfl rfl rfl rfl ?_
                          refine TO.bin rfl rfl rfl rfl rfl rfl ?_
                          refine TO.pickT rfl rfl rfl rfl rfl ?_
                          refine TO.move rfl rfl rfl rfl ?_
                          refine TO.decB (t := 114) (b' := false) rfl (decide_eq_false g283) ?_
                          refine TO.shut rfl rfl rfl rfl ?_
                          refine TO.shut rfl rfl rfl rfl ?_
                          refine TO.pickF rfl rfl rfl rfl rfl ?_
                          refine TO.assign rfl rfl rfl rfl ?_
                          refine TO.done ?_
                          refine X.seq_normal ?_
                          refine T.trim (AllF.cons (t := 0) rfl AllF.nil) ?_
                          refine T.ret ?_
                          obtain rfl := ret1 H
                          exact X.ret1 rfl rfl rfl rfl (Res.tmp rfl) Pick.nil ⟨rfl, rfl⟩
                      ·
                        refine T.regionL (ll := [0, 1, 2, 3, 4, 5, 6, 7, 8, 9, 10, 11, 12, 13, 14]) rfl ?_
                        refine TO.move rfl rfl rfl rfl ?_
                        refine TO.bin rfl rfl rfl rfl rfl rfl ?_
                        refine TO.move rfl rfl rfl rfl ?_
                        refine TO.decB (t := 106) (b' := true) rfl (decide_eq_true g281) ?_
                        refine TO.move rfl rfl rfl rfl ?_
                        refine TO.bin rfl rfl rfl rfl rfl rfl ?_
                        refine TO.pickT rfl rfl rfl rfl rfl ?_
                        refine TO.move rfl rfl rfl rfl ?_
                        refine TO.decB (t := 110) (b' := false) rfl (decide_eq_false g282) ?_
                        refine TO.shut rfl rfl rfl rfl ?_
                        refine TO.shut rfl rfl rfl rfl ?_
                        refine TO.pickF rfl rfl rfl rfl rfl ?_
                        refine TO.move rfl rfl rfl rfl ?_
                        refine TO.shut rfl rfl rfl rfl ?_
                        refine TO.shut rfl rfl rfl rfl ?_
                        refine TO.pickF rfl rfl rfl rfl rfl ?_
                        refine TO.assign rfl rfl rfl rfl ?_
                        refine TO.done ?_
                        refine X.seq_normal ?_
                        refine T.trim (AllF.cons (t := 0) rfl AllF.nil) ?_
                        refine T.ret ?_
                        obtain rfl := ret1 H
                        exact X.ret1 rfl rfl rfl rfl (Res.tmp rfl) Pick.nil ⟨rfl, rfl⟩
                    ·
                      refine T.regionL (ll := [0, 1, 2, 3, 4, 5, 6, 7, 8, 9, 10, 11, 12, 13, 14]) rfl ?_
                      refine TO.move rfl rfl rfl rfl ?_
                      refine TO.bin rfl rfl rfl rfl rfl rfl ?_
                      refine TO.move rfl rfl rfl rfl ?_
                      refine TO.decB (t := 106) (b' := false) rfl (decide_eq_false g281) ?_
                      refine TO.shut rfl rfl rfl rfl ?_
                      refine TO.shut rfl rfl rfl rfl ?_
                      refine TO.pickF rfl rfl rfl rfl rfl ?_
                      refine TO.move rfl rfl rfl rfl ?_
                      refine TO.shut rfl rfl rfl rfl ?_
                      refine TO.shut rfl rfl rfl rfl ?_
                      refine TO.pickF rfl rfl rfl rfl rfl ?_
                      refine TO.move rfl rfl rfl rfl ?_
                      refine TO.shut rfl rfl rfl rfl ?_
                      refine TO.shut rfl rfl rfl rfl ?_
                      refine TO.pickF rfl rfl rfl rfl rfl ?_
                      refine TO.assign rfl rfl rfl rfl ?_
                      refine TO.done ?_
                      refine X.seq_normal ?_
                      refine T.trim (AllF.cons (t := 0) rfl AllF.nil) ?_
                      refine T.ret ?_
                      obtain rfl := ret1 H
                      exact X.ret1 rfl rfl rfl rfl (Res.tmp rfl) Pick.nil ⟨rfl, rfl⟩
end Go.Proofs.Ytjeenmabclghoaa.Ax
