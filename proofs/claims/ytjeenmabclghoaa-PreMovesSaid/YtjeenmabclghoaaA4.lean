/- Texts of this claim, one behind the other. -/
import Derived.Test.YtjeenmabclghoaaA1
import Derived.Test.YtjeenmabclghoaaA2
import Derived.Test.YtjeenmabclghoaaA3
namespace Go.Proofs.Ytjeenmabclghoaa.Ax
open Go Go.Acq Go.RowKit Go.Proofs
set_option linter.unusedVariables false
set_option linter.unusedSimpArgs false
set_option maxHeartbeats 8000000
set_option maxRecDepth 20000
theorem TWBS4a.a32 : aggT Try.prog 32 9 = true := by kernel_rfl
theorem TWBS4a.b2 : bytesT Try.prog 2 = some 8 := by kernel_rfl
theorem TWBS4a.c100 : callable Try.prog 100 = true := by kernel_rfl
theorem TWBS4a.c108 : callable Try.prog 108 = true := by kernel_rfl
theorem TWBS4a.c75 : callable Try.prog 75 = true := by kernel_rfl
theorem TWBS4a.c76 : callable Try.prog 76 = true := by kernel_rfl
theorem TWBS4a.c90 : callable Try.prog 90 = true := by kernel_rfl
theorem TWBS4a.c91 : callable Try.prog 91 = true := by kernel_rfl
theorem TWBS4a.c99 : callable Try.prog 99 = true := by kernel_rfl
theorem TWBS4a.f32_3 : fieldT Try.prog 32 3 = some 3 := by kernel_rfl
theorem TWBS4a.f32_5 : fieldT Try.prog 32 5 = some 5 := by kernel_rfl
theorem TWBS4a.f32_6 : fieldT Try.prog 32 6 = some 6 := by kernel_rfl
theorem TWBS4a.f32_7 : fieldT Try.prog 32 7 = some 7 := by kernel_rfl
theorem TWBS4a.f32_8 : fieldT Try.prog 32 8 = some 8 := by kernel_rfl
theorem TWBS4a.i146 : intT Try.prog 146 = some .u64 := by kernel_rfl
theorem TWBS4a.i3 : intT Try.prog 3 = some .i64 := by kernel_rfl
theorem TWBS4a.l26 : sliceT Try.prog 26 = some 2 := by kernel_rfl
theorem TWBS4a.l27 : sliceT Try.prog 27 = some 3 := by kernel_rfl
theorem TWBS4a.l30 : sliceT Try.prog 30 = some 4 := by kernel_rfl
theorem TWBS4a.n2 : sizeT Try.prog 2 = some 1 := by kernel_rfl
theorem TWBS4a.n3 : sizeT Try.prog 3 = some 1 := by kernel_rfl
theorem TWBS4a.n4 : sizeT Try.prog 4 = some 1 := by kernel_rfl
theorem TWBS4a.o146 : (Try.prog.underlying 146).isSome = true := by kernel_rfl
theorem TWBS4a.o3 : (Try.prog.underlying 3).isSome = true := by kernel_rfl
theorem TWBS4a.s2 : scalT Try.prog 2 = true := by kernel_rfl
theorem TWBS4a.s26 : scalT Try.prog 26 = true := by kernel_rfl
theorem TWBS4a.s27 : scalT Try.prog 27 = true := by kernel_rfl
theorem TWBS4a.s3 : scalT Try.prog 3 = true := by kernel_rfl
theorem TWBS4a.s30 : scalT Try.prog 30 = true := by kernel_rfl
theorem TWBS4a.s4 : scalT Try.prog 4 = true := by kernel_rfl
theorem TWBS4a.z2 : zeroT Try.prog 2 = some (.int .i64 0) := by kernel_rfl
/-- acequia/csr.Flow$1 -/
theorem w_csr_Flow_1 {k0 : Int} {c1 : Int} {c1_k : Nat} (w : World) (h_c1_k : HB w [] c1_k [.int .i64 c1]) {r0 : Bool} (H : m_csr_Flow_1 k0 c1 = some r0) : Fnc Try.prog 90 #[.int .i64 k0, .pointer (some ⟨c1_k, 0, none⟩)] w [] (fun v N => v = .bool r0 ∧ N = []) := by
  unfold m_csr_Flow_1 at H
  refine Fnc.enter (vs := [.int .i64 k0, .pointer (some ⟨c1_k, 0, none⟩)]) Try.func90 rfl rfl (Inv.refl w) ?_
  refine T.seq ?_
  refine T.regionL (ll := [0]) rfl ?_
  refine TO.assign rfl rfl rfl rfl ?_
  refine TO.done ?_
  refine X.seq_normal ?_
  refine T.seq ?_
  refine T.regionL (ll := [0, 1, 2, 3]) rfl ?_
  refine TO.move rfl rfl rfl rfl ?_
  refine TO.ldHB h_c1_k rfl rfl rfl rfl rfl TWBS4a.s3 ?_
  refine TO.bin rfl rfl rfl rfl rfl rfl ?_
  refine TO.assign rfl rfl rfl rfl ?_
  refine TO.done ?_
  refine X.seq_normal ?_
  refine T.ret ?_
  obtain rfl := ret1 H
  exact X.ret1 rfl rfl rfl rfl (Res.tmp rfl) Pick.nil ⟨rfl, rfl⟩
/-- slices.IndexFunc[[]int,int] -/
theorem w_slices_IndexFunc_int_Flow_1 {s0 : List Int} {f1_0 : Int} {s0_b : Option Addr} {s0_n : Nat} {s0_c : Nat} {f1_0_k : Nat} (w : World) (h_s0 : RS w [] (intC .i64) 1 s0_b s0_n s0_c s0) (h_f1_0_k : HB w [] f1_0_k [.int .i64 f1_0]) {r0 : Int} (H : m_slices_IndexFunc_int_Flow_1 s0 f1_0 = some r0) : Fnc Try.prog 108 #[.slice s0_b s0_n s0_c, .func (.func 90) #[] #[.pointer (some ⟨f1_0_k, 0, none⟩)]] w [] (fun v N => v = .int .i64 r0 ∧ N = []) := by
  unfold m_slices_IndexFunc_int_Flow_1 at H
  refine Fnc.enter (vs := [.slice s0_b s0_n s0_c, .func (.func 90) #[] #[.pointer (some ⟨f1_0_k, 0, none⟩)]]) Try.func108 rfl rfl (Inv.refl w) ?_
  refine T.seq ?_
  refine T.regionL (ll := [0]) rfl ?_
  refine TO.assign rfl rfl rfl rfl ?_
  refine TO.done ?_
  refine X.seq_normal ?_
  refine T.seq ?_
  refine T.seq ?_
  refine T.regionL (ll := [0, 1, 2]) rfl ?_
  refine TO.move rfl rfl rfl rfl ?_
  refine TO.lenX (xs := s0) h_s0.len rfl rfl rfl rfl rfl TWBS4a.l27 ?_
  refine TO.move rfl rfl rfl rfl ?_
  refine TO.done ?_
  refine X.seq_normal ?_
  refine T.meetSE1 (fun (u8 : Unit) => m_slices_IndexFunc_int_Flow_1_j2 = some r0) (fun (u8 : Unit) => []) (fun (u8 : Unit) => []) ?_ ?_
  ·
    refine T.block ?_
    obtain ⟨o_1, e_1, K_1⟩ := bd_some H
    refine T.loopE2 (fun (m_1 : Nat) (x1 : Int) => loopM (fun s => m_slices_IndexFunc_int_Flow_1_s1 s0 f1_0 s) m_1 x1 = some o_1) (fun (m_1 : Nat) (x1 : Int) => [(0, .slice s0_b s0_n s0_c), (1, .func (.func 90) #[] #[.pointer (some ⟨f1_0_k, 0, none⟩)]), (7, .int .i64 (s0.length : Int)), (8, .int .i64 x1)]) (fun (m_1 : Nat) (x1 : Int) => []) (fun (m_1 : Nat) (x1 : Int) => m_1) FUEL 0 e_1 (AllF.cons rfl (AllF.cons rfl (AllF.cons rfl (AllF.cons rfl AllF.nil)))) Pick.nil ?_
    rintro m_1 x1 H
    obtain ⟨n_1, r_1, rfl, H, C_1⟩ := loopM_some H
    have H : m_slices_IndexFunc_int_Flow_1_s1 s0 f1_0 x1 = some r_1 := H
    unfold m_slices_IndexFunc_int_Flow_1_s1 at H
    refine T.seq ?_
    refine T.regionL (ll := [0]) rfl ?_
    refine TO.bin rfl rfl rfl rfl rfl rfl ?_
    refine TO.done ?_
    refine X.seq_normal ?_
    refine T.seq ?_
    rcases ite_some H with ⟨g2, H⟩ | ⟨g2, H⟩
    ·
      refine T.condPT rfl g2 ?_
      refine T.skip ?_
      refine X.seq_normal ?_
      refine T.seq ?_
      refine T.block ?_
      refine T.seq ?_
      refine T.regionL (ll := [0, 1]) rfl ?_
      refine TO.move rfl rfl rfl rfl ?_
      refine TO.assign rfl rfl rfl rfl ?_
      refine TO.done ?_
      refine X.seq_normal ?_
      refine T.seq ?_
      obtain ⟨g3, H⟩ := gd_some H
      obtain ⟨r4, e5, H⟩ := bd_some H
      refine T.regionL (ll := [0, 1, 2, 3, 4, 5]) rfl ?_
      refine TO.move rfl rfl rfl rfl ?_
      refine TO.move rfl rfl rfl rfl ?_
      refine TO.move rfl rfl rfl rfl ?_
      refine TO.ixR h_s0 g3 rfl rfl rfl rfl rfl TWBS4a.l27 TWBS4a.n3 ?_
      refine TO.ldIR h_s0 g3 rfl rfl rfl rfl TWBS4a.s3 ?_
      refine TO.callVX TWBS4a.c90 rfl rfl rfl rfl rfl (fun wc hwc => w_csr_Flow_1 (k0 := (s0.getD x1.toNat 0)) (c1 := f1_0) wc (h_f1_0_k.mono hwc) e5) ?_
      rintro _ _ ⟨rfl, rfl⟩
      refine TO.done ?_
      refine X.seq_normal ?_
      rcases ite_some H with ⟨g6, H⟩ | ⟨g6, H⟩
      ·
        refine T.condT rfl g6 ?_
        refine T.seq ?_
        refine T.regionL (ll := [0, 1]) rfl ?_
        refine TO.move rfl rfl rfl rfl ?_
        refine TO.assign rfl rfl rfl rfl ?_
        refine TO.done ?_
        refine X.seq_normal ?_
        refine T.trim (AllF.cons (t := 4) rfl AllF.nil) ?_
        refine T.ret ?_
        refine X.block_ret ?_
        refine X.then_ret ?_
        have H := loop_exitE H C_1 ▸ K_1
        refine X.then_ret ?_
        refine X.block_ret ?_
        refine X.then_ret ?_
        obtain rfl := ret1 H
        exact X.ret1 rfl rfl rfl rfl (Res.tmp rfl) Pick.nil ⟨rfl, rfl⟩
      ·
        refine T.condF rfl (Bool.eq_false_iff.2 g6) ?_
        refine T.skip ?_
        refine X.block_normal ?_
        refine X.seq_normal ?_
        refine T.trim (AllF.cons (t := 0) rfl (AllF.cons (t := 1) rfl (AllF.cons (t := 7) rfl (AllF.cons (t := 8) rfl AllF.nil)))) ?_
        obtain ⟨g7, H⟩ := gd_some H
        refine T.regionL (ll := [0, 1]) rfl ?_
        refine TO.addG g7 rfl rfl rfl rfl rfl ?_
        refine TO.move rfl rfl rfl rfl ?_
        refine TO.done ?_
        have H := loop_next H C_1
        exact X.againE2 n_1 (x1 + 1) H (Nat.lt_succ_self _) (AllF.cons rfl (AllF.cons rfl (AllF.cons rfl (AllF.cons rfl AllF.nil)))) Pick.nil
    ·
      refine T.condPF rfl g2 ?_
      refine T.exit ?_
      refine X.then_exit ?_
      have H := loop_exitE H C_1 ▸ K_1
      refine X.then_exit ?_
      refine X.block_here ?_
      exact X.metE1 () H AllF.nil Pick.nil
  · rintro u8 H
    unfold m_slices_IndexFunc_int_Flow_1_j2 at H
    refine T.seq ?_
    refine T.regionL (ll := [0]) rfl ?_
    refine TO.assign rfl rfl rfl rfl ?_
    refine TO.done ?_
    refine X.seq_normal ?_
    refine T.ret ?_
    obtain rfl := ret1 H
    exact X.ret1 rfl rfl rfl rfl (Res.tmp rfl) Pick.nil ⟨rfl, rfl⟩
/-- slices.ContainsFunc[[]int,int] -/
theorem w_slices_ContainsFunc_int_Flow_1 {s0 : List Int} {f1_0 : Int} {s0_b : Option Addr} {s0_n : Nat} {s0_c : Nat} {f1_0_k : Nat} (w : World) (h_s0 : RS w [] (intC .i64) 1 s0_b s0_n s0_c s0) (h_f1_0_k : HB w [] f1_0_k [.int .i64 f1_0]) {r0 : Bool} (H : m_slices_ContainsFunc_int_Flow_1 s0 f1_0 = some r0) : Fnc Try.prog 91 #[.slice s0_b s0_n s0_c, .func (.func 90) #[] #[.pointer (some ⟨f1_0_k, 0, none⟩)]] w [] (fun v N => v = .bool r0 ∧ N = []) := by
  unfold m_slices_ContainsFunc_int_Flow_1 at H
  refine Fnc.enter (vs := [.slice s0_b s0_n s0_c, .func (.func 90) #[] #[.pointer (some ⟨f1_0_k, 0, none⟩)]]) Try.func91 rfl rfl (Inv.refl w) ?_
  refine T.seq ?_
  refine T.regionL (ll := [0]) rfl ?_
  refine TO.assign rfl rfl rfl rfl ?_
  refine TO.done ?_
  refine X.seq_normal ?_
  refine T.seq ?_
  obtain ⟨r1, e2, H⟩ := bd_some H
  refine T.regionL (ll := [0, 1, 2, 3, 4]) rfl ?_
  refine TO.move rfl rfl rfl rfl ?_
  refine TO.move rfl rfl rfl rfl ?_
  refine TO.callX TWBS4a.c108 rfl rfl rfl rfl (fun wc hwc => w_slices_IndexFunc_int_Flow_1 (s0 := s0) (f1_0 := f1_0) wc (h_s0.mono hwc) (h_f1_0_k.mono hwc) e2) ?_
  rintro _ _ ⟨rfl, rfl⟩
  refine TO.bin rfl rfl rfl rfl rfl rfl ?_
  refine TO.assign rfl rfl rfl rfl ?_
  refine TO.done ?_
  refine X.seq_normal ?_
  refine T.ret ?_
  obtain rfl := ret1 H
  exact X.ret1 rfl rfl rfl rfl (Res.tmp rfl) Pick.nil ⟨rfl, rfl⟩
/-- acequia/csr.Flow -/
theorem w_csr_Flow {c0 : Csr} {res1 : List Int} {arcs2 : Int} {c0f3_b : Option Addr} {c0f3_n : Nat} {c0f3_c : Nat} {c0f4_b : Option Addr} {c0f4_n : Nat} {c0f4_c : Nat} {c0f5_b : Option Addr} {c0f5_n : Nat} {c0f5_c : Nat} {c0f6_b : Option Addr} {c0f6_n : Nat} {c0f6_c : Nat} {c0f7_b : Option Addr} {c0f7_n : Nat} {c0f7_c : Nat} {c0f8_b : Option Addr} {c0f8_n : Nat} {c0f8_c : Nat} {res1_b : Option Addr} {res1_n : Nat} {res1_c : Nat} (w : World) (h_c0f3 : RS w [] (intC .i64) 1 c0f3_b c0f3_n c0f3_c c0.First) (h_c0f4 : RS w [] (intC .i64) 1 c0f4_b c0f4_n c0f4_c c0.Head) (h_c0f5 : RS w [] (intC .i64) 1 c0f5_b c0f5_n c0f5_c c0.Rev) (h_c0f6 : RS w [] (intC .i64) 1 c0f6_b c0f6_n c0f6_c c0.Cap) (h_c0f7 : RS w [] (intC .i64) 1 c0f7_b c0f7_n c0f7_c c0.Arc) (h_c0f8 : RS w [] boolC 1 c0f8_b c0f8_n c0f8_c c0.Back) (h_res1 : RS w [] (intC .i64) 1 res1_b res1_n res1_c res1) {r0 : List Int} {r1 : Int} (H : m_csr_Flow c0 res1 arcs2 = some (r0, r1)) : Fnc Try.prog 54 #[.agg #[.int .i64 c0.N, .int .i64 c0.S, .int .i64 c0.T, .slice c0f3_b c0f3_n c0f3_c, .slice c0f4_b c0f4_n c0f4_c, .slice c0f5_b c0f5_n c0f5_c, .slice c0f6_b c0f6_n c0f6_c, .slice c0f7_b c0f7_n c0f7_c, .slice c0f8_b c0f8_n c0f8_c], .slice res1_b res1_n res1_c, .int .i64 arcs2] w [] (fun v N => ∃ (ob_0 : Option Nat) (n_0 : Nat) (c_0 : Nat) (j_0 : List Value), v = .tuple #[.slice (sb ob_0) n_0 c_0, .int .i64 r1] ∧ N = [(ob_0, .cells (arr (intC .i64) r0 j_0).toArray 2 (0, 0))] ∧ r0.length = n_0 ∧ n_0 ≤ c_0 ∧ j_0.length = (c_0 - n_0) * 1 ∧ (ob_0 = none → c_0 = 0)) := by
  unfold m_csr_Flow at H
  refine Fnc.enter (vs := [.agg #[.int .i64 c0.N, .int .i64 c0.S, .int .i64 c0.T, .slice c0f3_b c0f3_n c0f3_c, .slice c0f4_b c0f4_n c0f4_c, .slice c0f5_b c0f5_n c0f5_c, .slice c0f6_b c0f6_n c0f6_c, .slice c0f7_b c0f7_n c0f7_c, .slice c0f8_b c0f8_n c0f8_c], .slice res1_b res1_n res1_c, .int .i64 arcs2]) Try.func54 rfl rfl (Inv.refl w) ?_
  refine T.seq ?_
  refine T.regionL (ll := [0, 1, 2, 3]) rfl ?_
  refine TO.boxA rfl rfl rfl rfl ?_; intro b1
  refine TO.box rfl rfl rfl rfl ?_; intro b3
  refine TO.assign rfl rfl rfl rfl ?_
  refine TO.assign rfl rfl rfl rfl ?_
  refine TO.done ?_
  refine X.seq_normal ?_
  refine T.seq ?_
  refine T.regionL (ll := [0, 1]) rfl ?_
  refine TO.makeFunc rfl rfl rfl rfl rfl ?_
  refine TO.assign rfl rfl rfl rfl ?_
  refine TO.done ?_
  refine X.seq_normal ?_
  refine T.seq ?_
  refine T.seq ?_
  refine T.meetSE1 (fun (x12 : Bool) => m_csr_Flow_j1 c0 res1 arcs2 x12 = some (r0, r1)) (fun (x12 : Bool) => [(1, .slice res1_b res1_n res1_c), (3, .pointer (some ⟨b1, 0, none⟩)), (5, .pointer (some ⟨b3, 0, none⟩)), (32, .bool x12)]) (fun (x12 : Bool) => [(some b1, .cells #[.int .i64 c0.N, .int .i64 c0.S, .int .i64 c0.T, .slice c0f3_b c0f3_n c0f3_c, .slice c0f4_b c0f4_n c0f4_c, .slice c0f5_b c0f5_n c0f5_c, .slice c0f6_b c0f6_n c0f6_c, .slice c0f7_b c0f7_n c0f7_c, .slice c0f8_b c0f8_n c0f8_c] 32 (0, 0)), (some b3, .cells #[.int .i64 arcs2] 3 (0, 0))]) ?_ ?_
  ·
    obtain ⟨r5, e6, H⟩ := bd_some H
    rcases ite_some H with ⟨g7, H⟩ | ⟨g7, H⟩
    ·
      refine T.regionL (ll := [0, 1, 2, 3, 4, 5, 6, 7, 8, 9, 10, 11, 12, 13, 14, 15, 16, 17, 18]) rfl ?_
      refine TO.move rfl rfl rfl rfl ?_
      refine TO.lenX (xs := res1) h_res1.len rfl rfl rfl rfl rfl TWBS4a.l26 ?_
      refine TO.loadA rfl rfl rfl rfl TWBS4a.a32 mm1 rfl ?_
      refine TO.callX TWBS4a.c75 rfl rfl rfl rfl (fun wc hwc => w_csr_Len (c0 := c0) wc (h_c0f3.mono hwc) (h_c0f4.mono hwc) (h_c0f5.mono hwc) (h_c0f6.mono hwc) (h_c0f7.mono hwc) (h_c0f8.mono hwc) e6) ?_
      rintro _ _ ⟨rfl, rfl⟩
      refine TO.bin rfl rfl rfl rfl rfl rfl ?_
      refine TO.move rfl rfl rfl rfl ?_
      refine TO.decB (t := 19) (b' := true) rfl (decide_eq_true g7) ?_
      refine TO.shut rfl rfl rfl rfl ?_
      refine TO.shut rfl rfl rfl rfl ?_
      refine TO.pickT rfl rfl rfl rfl rfl ?_
      refine TO.move rfl rfl rfl rfl ?_
      refine TO.shut rfl rfl rfl rfl ?_
      refine TO.shut rfl rfl rfl rfl ?_
      refine TO.pickT rfl rfl rfl rfl rfl ?_
      refine TO.move rfl rfl rfl rfl ?_
      refine TO.shut rfl rfl rfl rfl ?_
      refine TO.shut rfl rfl rfl rfl ?_
      refine TO.shut rfl rfl rfl rfl ?_
      refine TO.shut rfl rfl rfl rfl ?_
      refine TO.pickT rfl rfl rfl rfl rfl ?_
      refine TO.done ?_
      exact X.metE1 true H (AllF.cons rfl (AllF.cons rfl (AllF.cons rfl (AllF.cons rfl AllF.nil)))) (Pick.cons tk1 (Pick.cons tk0 Pick.nil))
    ·
      rcases ite_some H with ⟨g8, H⟩ | ⟨g8, H⟩
      ·
        refine T.regionL (ll := [0, 1, 2, 3, 4, 5, 6, 7, 8, 9, 10, 11, 12, 13, 14, 15, 16, 17, 18]) rfl ?_
        refine TO.move rfl rfl rfl rfl ?_
        refine TO.lenX (xs := res1) h_res1.len rfl rfl rfl rfl rfl TWBS4a.l26 ?_
        refine TO.loadA rfl rfl rfl rfl TWBS4a.a32 mm1 rfl ?_
        refine TO.callX TWBS4a.c75 rfl rfl rfl rfl (fun wc hwc => w_csr_Len (c0 := c0) wc (h_c0f3.mono hwc) (h_c0f4.mono hwc) (h_c0f5.mono hwc) (h_c0f6.mono hwc) (h_c0f7.mono hwc) (h_c0f8.mono hwc) e6) ?_
        rintro _ _ ⟨rfl, rfl⟩
        refine TO.bin rfl rfl rfl rfl rfl rfl ?_
        refine TO.move rfl rfl rfl rfl ?_
        refine TO.decB (t := 19) (b' := false) rfl (decide_eq_false g7) ?_
        refine TO.load1 rfl rfl rfl rfl TWBS4a.s3 mm0 rfl ?_
        refine TO.bin rfl rfl rfl rfl rfl rfl ?_
        refine TO.pickF rfl rfl rfl rfl rfl ?_
        refine TO.move rfl rfl rfl rfl ?_
        refine TO.decB (t := 23) (b' := true) rfl (decide_eq_true g8) ?_
        refine TO.shut rfl rfl rfl rfl ?_
        refine TO.shut rfl rfl rfl rfl ?_
        refine TO.pickT rfl rfl rfl rfl rfl ?_
        refine TO.move rfl rfl rfl rfl ?_
        refine TO.shut rfl rfl rfl rfl ?_
        refine TO.shut rfl rfl rfl rfl ?_
        refine TO.shut rfl rfl rfl rfl ?_
        refine TO.shut rfl rfl rfl rfl ?_
        refine TO.pickT rfl rfl rfl rfl rfl ?_
        refine TO.done ?_
        exact X.metE1 true H (AllF.cons rfl (AllF.cons rfl (AllF.cons rfl (AllF.cons rfl AllF.nil)))) (Pick.cons tk1 (Pick.cons tk0 Pick.nil))
      ·
        rcases ite_some H with ⟨g9, H⟩ | ⟨g9, H⟩
        ·
          refine T.regionL (ll := [0, 1, 2, 3, 4, 5, 6, 7, 8, 9, 10, 11, 12, 13, 14, 15, 16, 17, 18]) rfl ?_
          refine TO.move rfl rfl rfl rfl ?_
          refine TO.lenX (xs := res1) h_res1.len rfl rfl rfl rfl rfl TWBS4a.l26 ?_
          refine TO.loadA rfl rfl rfl rfl TWBS4a.a32 mm1 rfl ?_
          refine TO.callX TWBS4a.c75 rfl rfl rfl rfl (fun wc hwc => w_csr_Len (c0 := c0) wc (h_c0f3.mono hwc) (h_c0f4.mono hwc) (h_c0f5.mono hwc) (h_c0f6.mono hwc) (h_c0f7.mono hwc) (h_c0f8.mono hwc) e6) ?_
          rintro _ _ ⟨rfl, rfl⟩
          refine TO.bin rfl rfl rfl rfl rfl rfl ?_
          refine TO.move rfl rfl rfl rfl ?_
          refine TO.decB (t := 19) (b' := false) rfl (decide_eq_false g7) ?_
          refine TO.load1 rfl rfl rfl rfl TWBS4a.s3 mm0 rfl ?_
          refine TO.bin rfl rfl rfl rfl rfl rfl ?_
          refine TO.pickF rfl rfl rfl rfl rfl ?_
          refine TO.move rfl rfl rfl rfl ?_
          refine TO.decB (t := 23) (b' := false) rfl (decide_eq_false g8) ?_
          refine TO.load1 rfl rfl rfl rfl TWBS4a.s3 mm0 rfl ?_
          refine TO.bin rfl rfl rfl rfl rfl rfl ?_
          refine TO.pickF rfl rfl rfl rfl rfl ?_
          refine TO.move rfl rfl rfl rfl ?_
          refine TO.decB (t := 27) (b' := true) rfl (decide_eq_true g9) ?_
          refine TO.shut rfl rfl rfl rfl ?_
          refine TO.shut rfl rfl rfl rfl ?_
          refine TO.shut rfl rfl rfl rfl ?_
          refine TO.shut rfl rfl rfl rfl ?_
          refine TO.pickT rfl rfl rfl rfl rfl ?_
          refine TO.done ?_
          exact X.metE1 true H (AllF.cons rfl (AllF.cons rfl (AllF.cons rfl (AllF.cons rfl AllF.nil)))) (Pick.cons tk1 (Pick.cons tk0 Pick.nil))
        ·
          obtain ⟨r10, e11, H⟩ := bd_some H
          refine T.regionL (ll := [0, 1, 2, 3, 4, 5, 6, 7, 8, 9, 10, 11, 12, 13, 14, 15, 16, 17, 18]) rfl ?_
          refine TO.move rfl rfl rfl rfl ?_
          refine TO.lenX (xs := res1) h_res1.len rfl rfl rfl rfl rfl TWBS4a.l26 ?_
          refine TO.loadA rfl rfl rfl rfl TWBS4a.a32 mm1 rfl ?_
          refine TO.callX TWBS4a.c75 rfl rfl rfl rfl (fun wc hwc => w_csr_Len (c0 := c0) wc (h_c0f3.mono hwc) (h_c0f4.mono hwc) (h_c0f5.mono hwc) (h_c0f6.mono hwc) (h_c0f7.mono hwc) (h_c0f8.mono hwc) e6) ?_
          rintro _ _ ⟨rfl, rfl⟩
          refine TO.bin rfl rfl rfl rfl rfl rfl ?_
          refine TO.move rfl rfl rfl rfl ?_
          refine TO.decB (t := 19) (b' := false) rfl (decide_eq_false g7) ?_
          refine TO.load1 rfl rfl rfl rfl TWBS4a.s3 mm0 rfl ?_
          refine TO.bin rfl rfl rfl rfl rfl rfl ?_
          refine TO.pickF rfl rfl rfl rfl rfl ?_
          refine TO.move rfl rfl rfl rfl ?_
          refine TO.decB (t := 23) (b' := false) rfl (decide_eq_false g8) ?_
          refine TO.load1 rfl rfl rfl rfl TWBS4a.s3 mm0 rfl ?_
          refine TO.bin rfl rfl rfl rfl rfl rfl ?_
          refine TO.pickF rfl rfl rfl rfl rfl ?_
          refine TO.move rfl rfl rfl rfl ?_
          refine TO.decB (t := 27) (b' := false) rfl (decide_eq_false g9) ?_
          refine TO.fieldAddr0 rfl rfl rfl rfl TWBS4a.f32_7 ?_
          refine TO.load1 rfl rfl rfl rfl TWBS4a.s27 mm1 rfl ?_
          refine TO.move rfl rfl rfl rfl ?_
          refine TO.callX TWBS4a.c91 rfl rfl rfl rfl (fun wc hwc => w_slices_ContainsFunc_int_Flow_1 (s0 := c0.Arc) (f1_0 := arcs2) wc (h_c0f7.mono hwc) (hwc.hb (cs := [.int .i64 arcs2]) mm0) e11) ?_
          rintro _ _ ⟨rfl, rfl⟩
          refine TO.pickF rfl rfl rfl rfl rfl ?_
          refine TO.done ?_
          exact X.metE1 r10 H (AllF.cons rfl (AllF.cons rfl (AllF.cons rfl (AllF.cons rfl AllF.nil)))) (Pick.cons tk1 (Pick.cons tk0 Pick.nil))
  · rintro x12 H
    unfold m_csr_Flow_j1 at H
    rcases ite_some H with ⟨g13, H⟩ | ⟨g13, H⟩
    ·
      refine T.condT rfl g13 ?_
      refine T.seq ?_
      refine T.regionL (ll := [0, 1]) rfl ?_
      refine TO.assign rfl rfl rfl rfl ?_
      refine TO.assign rfl rfl rfl rfl ?_
      refine TO.done ?_
      refine X.seq_normal ?_
      refine T.ret ?_
      refine X.then_ret ?_
      obtain ⟨rfl, rfl⟩ := ret2 H
      exact X.ret2 rfl rfl rfl rfl (Res.tmp rfl) (Res.tmp rfl) (Pick.none Pick.nil) ⟨none, 0, 0, ([]), rfl, rfl, rfl, (Nat.le_refl _), (zeroJ 0 _), (fun _ => rfl)⟩
    ·
      refine T.condF rfl (Bool.eq_false_iff.2 g13) ?_
      refine T.skip ?_
      refine X.seq_normal ?_
      refine T.seq ?_
      obtain ⟨g14, H⟩ := gd_some H
      refine T.regionL (ll := [0, 1, 2]) rfl ?_
      refine TO.load1 rfl rfl rfl rfl TWBS4a.s3 mm1 rfl ?_
      refine TO.mkI g14 rfl rfl rfl rfl rfl TWBS4a.l26 TWBS4a.n2 TWBS4a.z2 TWBS4a.b2 rfl ?_; intro b15
      refine TO.assign rfl rfl rfl rfl ?_
      refine TO.done ?_
      refine X.seq_normal ?_
      refine T.seq ?_
      refine T.seq ?_
      refine T.regionL (ll := [0, 1, 2]) rfl ?_
      refine TO.move rfl rfl rfl rfl ?_
      refine TO.lenX (xs := res1) h_res1.len rfl rfl rfl rfl rfl TWBS4a.l26 ?_
      refine TO.move rfl rfl rfl rfl ?_
      refine TO.done ?_
      refine X.seq_normal ?_
      refine T.meetSE1 (fun (xs38 : List Int) => m_csr_Flow_j4 xs38 = some (r0, r1) ∧ xs38.length = arcs2.toNat) (fun (xs38 : List Int) => [(9, .slice (some ⟨b15, 0, none⟩) arcs2.toNat arcs2.toNat)]) (fun (xs38 : List Int) => [(some b15, .cells (arr (intC .i64) xs38 ([])).toArray 2 (0, 0))]) ?_ ?_
      ·
        refine T.block ?_
        obtain ⟨o_2, e_2, K_2⟩ := bd_some H
        refine T.loopE3 (fun (m_2 : Nat) (xs17 : List Int) (x19 : Int) => loopM (fun s => m_csr_Flow_s2 c0 res1 s.1 s.2) m_2 (xs17, x19) = some o_2 ∧ xs17.length = arcs2.toNat) (fun (m_2 : Nat) (xs17 : List Int) (x19 : Int) => [(1, .slice res1_b res1_n res1_c), (3, .pointer (some ⟨b1, 0, none⟩)), (9, .slice (some ⟨b15, 0, none⟩) arcs2.toNat arcs2.toNat), (35, .slice res1_b res1_n res1_c), (36, .int .i64 (res1.length : Int)), (37, .int .i64 x19)]) (fun (m_2 : Nat) (xs17 : List Int) (x19 : Int) => [(some b1, .cells #[.int .i64 c0.N, .int .i64 c0.S, .int .i64 c0.T, .slice c0f3_b c0f3_n c0f3_c, .slice c0f4_b c0f4_n c0f4_c, .slice c0f5_b c0f5_n c0f5_c, .slice c0f6_b c0f6_n c0f6_c, .slice c0f7_b c0f7_n c0f7_c, .slice c0f8_b c0f8_n c0f8_c] 32 (0, 0)), (some b15, .cells (arr (intC .i64) xs17 ([])).toArray 2 (0, 0))]) (fun (m_2 : Nat) (xs17 : List Int) (x19 : Int) => m_2) FUEL (List.replicate arcs2.toNat (0 : Int)) 0 ⟨e_2, List.length_replicate⟩ (AllF.cons rfl (AllF.cons rfl (AllF.cons rfl (AllF.cons rfl (AllF.cons rfl (AllF.cons rfl AllF.nil)))))) (Pick.cons tk1 (Pick.cons tk0 Pick.nil)) ?_
        rintro m_2 xs17 x19 ⟨H, hn18⟩
        obtain ⟨n_2, r_2, rfl, H, C_2⟩ := loopM_some H
        have H : m_csr_Flow_s2 c0 res1 xs17 x19 = some r_2 := H
        unfold m_csr_Flow_s2 at H
        refine T.seq ?_
        refine T.regionL (ll := [0]) rfl ?_
        refine TO.bin rfl rfl rfl rfl rfl rfl ?_
        refine TO.done ?_
        refine X.seq_normal ?_
        refine T.seq ?_
        rcases ite_some H with ⟨g20, H⟩ | ⟨g20, H⟩
        ·
          refine T.condPT rfl g20 ?_
          refine T.skip ?_
          refine X.seq_normal ?_
          refine T.seq ?_
          refine T.block ?_
          refine T.seq ?_
          obtain ⟨g21, H⟩ := gd_some H
          refine T.regionL (ll := [0, 1, 2, 3, 4]) rfl ?_
          refine TO.move rfl rfl rfl rfl ?_
          refine TO.ixR h_res1 g21 rfl rfl rfl rfl rfl TWBS4a.l26 TWBS4a.n2 ?_
          refine TO.ldIR h_res1 g21 rfl rfl rfl rfl TWBS4a.s2 ?_
          refine TO.assign rfl rfl rfl rfl ?_
          refine TO.assign rfl rfl rfl rfl ?_
          refine TO.done ?_
          refine X.seq_normal ?_
          refine T.seq ?_
          obtain ⟨g22, H⟩ := gd_some H
          obtain ⟨g23, H⟩ := gd_some H
          obtain ⟨g24, H⟩ := gd_some H
          apply T.drawQT [(42, _), (43, _), (44, _), (45, _), (46, _), (47, _), (48, _), (49, _), (50, _), (51, _), (52, _), (53, _), (54, _), (55, _)]
          · exact mixed
          · kernel_rfl
          · kernel_rfl
          · exact rfl
          · exact rfl
          · refine ⟨?_, ?_, ?_, ?_, ?_, ?_, ?_, ?_, ?_, ?_, ?_, ?_, ?_, ?_, trivial⟩
            · intro Es
              refine TO.fieldAddr0 rfl rfl rfl rfl TWBS4a.f32_6 ?_
              exact TO.done (X.ob rfl (Pick.refl _))
            · intro Es
              refine TO.load1 rfl rfl rfl rfl TWBS4a.s26 mm0 rfl ?_
              exact TO.done (X.ob rfl (Pick.refl _))
            · intro Es
              refine TO.move rfl rfl rfl rfl ?_
              exact TO.done (X.ob rfl (Pick.refl _))
            · intro Es
              refine TO.ixR h_c0f6 g22 rfl rfl rfl rfl rfl TWBS4a.l26 TWBS4a.n2 ?_
              exact TO.done (X.ob rfl (Pick.refl _))
            · intro Es
              refine TO.ldIR h_c0f6 g22 rfl rfl rfl rfl TWBS4a.s2 ?_
              exact TO.done (X.ob rfl (Pick.refl _))
            · intro Es
              refine TO.fieldAddr0 rfl rfl rfl rfl TWBS4a.f32_6 ?_
              exact TO.done (X.ob rfl (Pick.refl _))
            · intro Es
              refine TO.load1 rfl rfl rfl rfl TWBS4a.s26 mm0 rfl ?_
              exact TO.done (X.ob rfl (Pick.refl _))
            · intro Es
              refine TO.fieldAddr0 rfl rfl rfl rfl TWBS4a.f32_5 ?_
              exact TO.done (X.ob rfl (Pick.refl _))
            · intro Es
              refine TO.load1 rfl rfl rfl rfl TWBS4a.s27 mm0 rfl ?_
              exact TO.done (X.ob rfl (Pick.refl _))
            · intro Es
              refine TO.move rfl rfl rfl rfl ?_
              exact TO.done (X.ob rfl (Pick.refl _))
            · intro Es
              refine TO.ixR h_c0f5 g23 rfl rfl rfl rfl rfl TWBS4a.l27 TWBS4a.n3 ?_
              exact TO.done (X.ob rfl (Pick.refl _))
            · intro Es
              refine TO.ldIR h_c0f5 g23 rfl rfl rfl rfl TWBS4a.s3 ?_
              exact TO.done (X.ob rfl (Pick.refl _))
            · intro Es
              refine TO.ixR h_c0f6 g24 rfl rfl rfl rfl rfl TWBS4a.l26 TWBS4a.n2 ?_
              exact TO.done (X.ob rfl (Pick.refl _))
            · intro Es
              refine TO.ldIR h_c0f6 g24 rfl rfl rfl rfl TWBS4a.s2 ?_
              exact TO.done (X.ob rfl (Pick.refl _))
          refine TO.max2 rfl rfl rfl rfl rfl ?_
          refine TO.assign rfl rfl rfl rfl ?_
          refine TO.done ?_
          refine X.seq_normal ?_
          refine T.trim (AllF.cons (t := 1) rfl (AllF.cons (t := 3) rfl (AllF.cons (t := 9) rfl (AllF.cons (t := 35) rfl (AllF.cons (t := 36) rfl (AllF.cons (t := 37) rfl (AllF.cons (t := 10) rfl (AllF.cons (t := 11) rfl (AllF.cons (t := 12) rfl AllF.nil))))))))) ?_
          refine T.block ?_
          refine T.seq ?_
          refine T.meetSE1 (fun (x30 : Bool) => m_csr_Flow_j3 c0 res1 xs17 x19 x30 = some r_2) (fun (x30 : Bool) => [(1, .slice res1_b res1_n res1_c), (3, .pointer (some ⟨b1, 0, none⟩)), (9, .slice (some ⟨b15, 0, none⟩) arcs2.toNat arcs2.toNat), (10, .int .i64 x19), (11, .int .i64 (res1.getD x19.toNat 0)), (35, .slice res1_b res1_n res1_c), (36, .int .i64 (res1.length : Int)), (37, .int .i64 x19), (57, .bool x30)]) (fun (x30 : Bool) => [(some b1, .cells #[.int .i64 c0.N, .int .i64 c0.S, .int .i64 c0.T, .slice c0f3_b c0f3_n c0f3_c, .slice c0f4_b c0f4_n c0f4_c, .slice c0f5_b c0f5_n c0f5_c, .slice c0f6_b c0f6_n c0f6_c, .slice c0f7_b c0f7_n c0f7_c, .slice c0f8_b c0f8_n c0f8_c] 32 (0, 0)), (some b15, .cells (arr (intC .i64) xs17 ([])).toArray 2 (0, 0))]) ?_ ?_
          ·
            rcases ite_some H with ⟨g25, H⟩ | ⟨g25, H⟩
            ·
              refine T.regionL (ll := [0, 1, 2, 3, 4, 5, 6, 7, 8, 9, 10, 11, 12, 13, 14, 15, 16, 17, 18, 19, 20, 21]) rfl ?_
              refine TO.move rfl rfl rfl rfl ?_
              refine TO.bin rfl rfl rfl rfl rfl rfl ?_
              refine TO.move rfl rfl rfl rfl ?_
              refine TO.decB (t := 60) (b' := true) rfl (decide_eq_true g25) ?_
              refine TO.shut rfl rfl rfl rfl ?_
              refine TO.shut rfl rfl rfl rfl ?_
              refine TO.shut rfl rfl rfl rfl ?_
              refine TO.pickT rfl rfl rfl rfl rfl ?_
              refine TO.move rfl rfl rfl rfl ?_
              refine TO.shut rfl rfl rfl rfl ?_
              refine TO.shut rfl rfl rfl rfl ?_
              refine TO.shut rfl rfl rfl rfl ?_
              refine TO.shut rfl rfl rfl rfl ?_
              refine TO.shut rfl rfl rfl rfl ?_
              refine TO.shut rfl rfl rfl rfl ?_
              refine TO.shut rfl rfl rfl rfl ?_
              refine TO.shut rfl rfl rfl rfl ?_
              refine TO.shut rfl rfl rfl rfl ?_
              refine TO.shut rfl rfl rfl rfl ?_
              refine TO.shut rfl rfl rfl rfl ?_
              refine TO.shut rfl rfl rfl rfl ?_
              refine TO.pickT rfl rfl rfl rfl rfl ?_
              refine TO.assign rfl rfl rfl rfl ?_
              refine TO.done ?_
              exact X.metE1 true H (AllF.cons rfl (AllF.cons rfl (AllF.cons rfl (AllF.cons rfl (AllF.cons rfl (AllF.cons rfl (AllF.cons rfl (AllF.cons rfl (AllF.cons rfl AllF.nil))))))))) (Pick.cons tk0 (Pick.cons tk0 Pick.nil))
            ·
              rcases ite_some H with ⟨g26, H⟩ | ⟨g26, H⟩
              ·
                refine T.regionL (ll := [0, 1, 2, 3, 4, 5, 6, 7, 8, 9, 10, 11, 12, 13, 14, 15, 16, 17, 18, 19, 20, 21]) rfl ?_
                refine TO.move rfl rfl rfl rfl ?_
                refine TO.bin rfl rfl rfl rfl rfl rfl ?_
                refine TO.move rfl rfl rfl rfl ?_
                refine TO.decB (t := 60) (b' := false) rfl (decide_eq_false g25) ?_
                refine TO.move rfl rfl rfl rfl ?_
                refine TO.move rfl rfl rfl rfl ?_
                refine TO.bin rfl rfl rfl rfl rfl rfl ?_
                refine TO.pickF rfl rfl rfl rfl rfl ?_
                refine TO.move rfl rfl rfl rfl ?_
                refine TO.decB (t := 65) (b' := true) rfl (decide_eq_true g26) ?_
                refine TO.shut rfl rfl rfl rfl ?_
                refine TO.shut rfl rfl rfl rfl ?_
                refine TO.shut rfl rfl rfl rfl ?_
                refine TO.shut rfl rfl rfl rfl ?_
                refine TO.shut rfl rfl rfl rfl ?_
                refine TO.shut rfl rfl rfl rfl ?_
                refine TO.shut rfl rfl rfl rfl ?_
                refine TO.shut rfl rfl rfl rfl ?_
                refine TO.shut rfl rfl rfl rfl ?_
                refine TO.shut rfl rfl rfl rfl ?_
                refine TO.shut rfl rfl rfl rfl ?_
                refine TO.shut rfl rfl rfl rfl ?_
                refine TO.pickT rfl rfl rfl rfl rfl ?_
                refine TO.assign rfl rfl rfl rfl ?_
                refine TO.done ?_
                exact X.metE1 true H (AllF.cons rfl (AllF.cons rfl (AllF.cons rfl (AllF.cons rfl (AllF.cons rfl (AllF.cons rfl (AllF.cons rfl (AllF.cons rfl (AllF.cons rfl AllF.nil))))))))) (Pick.cons tk0 (Pick.cons tk0 Pick.nil))
              ·
                obtain ⟨g27, H⟩ := gd_some H
                obtain ⟨g28, H⟩ := gd_some H
                obtain ⟨g29, H⟩ := gd_some H
                refine T.regionL (ll := [0, 1, 2, 3, 4, 5, 6, 7, 8, 9, 10, 11, 12, 13, 14, 15, 16, 17, 18, 19, 20, 21]) rfl ?_
                refine TO.move rfl rfl rfl rfl ?_
                refine TO.bin rfl rfl rfl rfl rfl rfl ?_
                refine TO.move rfl rfl rfl rfl ?_
                refine TO.decB (t := 60) (b' := false) rfl (decide_eq_false g25) ?_
                refine TO.move rfl rfl rfl rfl ?_
                refine TO.move rfl rfl rfl rfl ?_
                refine TO.bin rfl rfl rfl rfl rfl rfl ?_
                refine TO.pickF rfl rfl rfl rfl rfl ?_
                refine TO.move rfl rfl rfl rfl ?_
                refine TO.decB (t := 65) (b' := false) rfl (decide_eq_false g26) ?_
                refine TO.move rfl rfl rfl rfl ?_
                refine TO.fieldAddr0 rfl rfl rfl rfl TWBS4a.f32_5 ?_
                refine TO.load1 rfl rfl rfl rfl TWBS4a.s27 mm0 rfl ?_
                refine TO.move rfl rfl rfl rfl ?_
                refine TO.ixR h_c0f5 g27 rfl rfl rfl rfl rfl TWBS4a.l27 TWBS4a.n3 ?_
                refine TO.ldIR h_c0f5 g27 rfl rfl rfl rfl TWBS4a.s3 ?_
                refine TO.ixR h_res1 g28 rfl rfl rfl rfl rfl TWBS4a.l26 TWBS4a.n2 ?_
                refine TO.ldIR h_res1 g28 rfl rfl rfl rfl TWBS4a.s2 ?_
                refine TO.move rfl rfl rfl rfl ?_
                refine TO.move rfl rfl rfl rfl ?_
                refine TO.subG g29 rfl rfl rfl rfl rfl ?_
                refine TO.bin rfl rfl rfl rfl rfl rfl ?_
                refine TO.pickF rfl rfl rfl rfl rfl ?_
                refine TO.assign rfl rfl rfl rfl ?_
                refine TO.done ?_
                exact X.metE1 (decide ((res1.getD (c0.Rev.getD x19.toNat 0).toNat 0) ≠ ((max (c0.Cap.getD x19.toNat 0) (c0.Cap.getD (c0.Rev.getD x19.toNat 0).toNat 0)) - (res1.getD x19.toNat 0)))) H (AllF.cons rfl (AllF.cons rfl (AllF.cons rfl (AllF.cons rfl (AllF.cons rfl (AllF.cons rfl (AllF.cons rfl (AllF.cons rfl (AllF.cons rfl AllF.nil))))))))) (Pick.cons tk0 (Pick.cons tk0 Pick.nil))
          · rintro x30 H
            unfold m_csr_Flow_j3 at H
            rcases ite_some H with ⟨g31, H⟩ | ⟨g31, H⟩
            ·
              refine T.condT rfl g31 ?_
              refine T.seq ?_
              refine T.regionL (ll := [0, 1]) rfl ?_
              refine TO.assign rfl rfl rfl rfl ?_
              refine TO.assign rfl rfl rfl rfl ?_
              refine TO.done ?_
              refine X.seq_normal ?_
              refine T.trim (AllF.cons (t := 6) rfl (AllF.cons (t := 7) rfl AllF.nil)) ?_
              refine T.ret ?_
              refine X.block_ret ?_
              refine X.block_ret ?_
              refine X.then_ret ?_
              have H := loop_exitE H C_2 ▸ K_2
              refine X.then_ret ?_
              refine X.block_ret ?_
              refine X.then_ret ?_
              obtain ⟨rfl, rfl⟩ := ret2 H
              exact X.ret2 rfl rfl rfl rfl (Res.tmp rfl) (Res.tmp rfl) (Pick.none Pick.nil) ⟨none, 0, 0, ([]), rfl, rfl, rfl, (Nat.le_refl _), (zeroJ 0 _), (fun _ => rfl)⟩
            ·
              refine T.condF rfl (Bool.eq_false_iff.2 g31) ?_
              refine T.seq ?_
              obtain ⟨g32, H⟩ := gd_some H
              refine T.regionL (ll := [0, 1, 2, 3, 4, 5]) rfl ?_
              refine TO.fieldAddr0 rfl rfl rfl rfl TWBS4a.f32_8 ?_
              refine TO.load1 rfl rfl rfl rfl TWBS4a.s30 mm0 rfl ?_
              refine TO.move rfl rfl rfl rfl ?_
              refine TO.ixR h_c0f8 g32 rfl rfl rfl rfl rfl TWBS4a.l30 TWBS4a.n4 ?_
              refine TO.ldBR h_c0f8 g32 rfl rfl rfl rfl TWBS4a.s4 ?_
              refine TO.assign rfl rfl rfl rfl ?_
              refine TO.done ?_
              refine X.seq_normal ?_
              rcases ite_some H with ⟨g33, H⟩ | ⟨g33, H⟩
              ·
                refine T.condT rfl g33 ?_
                obtain ⟨g34, H⟩ := gd_some H
                obtain ⟨g35, H⟩ := gd_some H
                refine T.regionL (ll := [0, 1, 2, 3, 4, 5, 6, 7, 8]) rfl ?_
                refine TO.move rfl rfl rfl rfl ?_
                refine TO.fieldAddr0 rfl rfl rfl rfl TWBS4a.f32_7 ?_
                refine TO.load1 rfl rfl rfl rfl TWBS4a.s27 mm0 rfl ?_
                refine TO.move rfl rfl rfl rfl ?_
                refine TO.ixR h_c0f7 g34 rfl rfl rfl rfl rfl TWBS4a.l27 TWBS4a.n3 ?_
                refine TO.ldIR h_c0f7 g34 rfl rfl rfl rfl TWBS4a.s3 ?_
                refine TO.move rfl rfl rfl rfl ?_
                refine TO.ix1 hn18 g35 rfl rfl rfl rfl rfl TWBS4a.l26 TWBS4a.n2 ?_
                refine TO.stIO g35 rfl rfl rfl rfl tk1 TWBS4a.n2 ?_
                refine TO.done ?_
                refine X.block_normal ?_
                refine X.block_normal ?_
                refine X.seq_normal ?_
                refine T.trim (AllF.cons (t := 1) rfl (AllF.cons (t := 3) rfl (AllF.cons (t := 9) rfl (AllF.cons (t := 35) rfl (AllF.cons (t := 36) rfl (AllF.cons (t := 37) rfl AllF.nil)))))) ?_
                obtain ⟨g36, H⟩ := gd_some H
                refine T.regionL (ll := [0, 1]) rfl ?_
                refine TO.addG g36 rfl rfl rfl rfl rfl ?_
                refine TO.move rfl rfl rfl rfl ?_
                refine TO.done ?_
                have H := loop_next H C_2
                exact X.againE3 n_2 (xs17.set (c0.Arc.getD x19.toNat 0).toNat (res1.getD x19.toNat 0)) (x19 + 1) ⟨H, (List.length_set.trans hn18)⟩ (Nat.lt_succ_self _) (AllF.cons rfl (AllF.cons rfl (AllF.cons rfl (AllF.cons rfl (AllF.cons rfl (AllF.cons rfl AllF.nil)))))) (Pick.cons tk1 (Pick.cons tk0 Pick.nil))
              ·
                refine T.condF rfl (Bool.eq_false_iff.2 g33) ?_
                refine T.skip ?_
                refine X.block_normal ?_
                refine X.block_normal ?_
                refine X.seq_normal ?_
                refine T.trim (AllF.cons (t := 1) rfl (AllF.cons (t := 3) rfl (AllF.cons (t := 9) rfl (AllF.cons (t := 35) rfl (AllF.cons (t := 36) rfl (AllF.cons (t := 37) rfl AllF.nil)))))) ?_
                obtain ⟨g37, H⟩ := gd_some H
                refine T.regionL (ll := [0, 1]) rfl ?_
                refine TO.addG g37 rfl rfl rfl rfl rfl ?_
                refine TO.move rfl rfl rfl rfl ?_
                refine TO.done ?_
                have H := loop_next H C_2
                exact X.againE3 n_2 xs17 (x19 + 1) ⟨H, hn18⟩ (Nat.lt_succ_self _) (AllF.cons rfl (AllF.cons rfl (AllF.cons rfl (AllF.cons rfl (AllF.cons rfl (AllF.cons rfl AllF.nil)))))) (Pick.cons tk0 (Pick.cons tk0 Pick.nil))
        ·
          refine T.condPF rfl g20 ?_
          refine T.exit ?_
          refine X.then_exit ?_
          have H := loop_exitE H C_2 ▸ K_2
          refine X.then_exit ?_
          refine X.block_here ?_
          exact X.metE1 xs17 ⟨H, hn18⟩ (AllF.cons rfl AllF.nil) (Pick.cons tk1 Pick.nil)
      · rintro xs38 ⟨H, hn39⟩
        unfold m_csr_Flow_j4 at H
        refine T.seq ?_
        refine T.regionL (ll := [0, 1, 2]) rfl ?_
        refine TO.move rfl rfl rfl rfl ?_
        refine TO.assign rfl rfl rfl rfl ?_
        refine TO.assign rfl rfl rfl rfl ?_
        refine TO.done ?_
        refine X.seq_normal ?_
        refine T.ret ?_
        obtain ⟨rfl, rfl⟩ := ret2 H
        exact X.ret2 rfl rfl rfl rfl (Res.tmp rfl) (Res.tmp rfl) (Pick.cons tk0 Pick.nil) ⟨(some b15), arcs2.toNat, arcs2.toNat, ([]), rfl, rfl, hn39, (Nat.le_refl _), (zeroJ _ _), someZ⟩
/-- sort.SearchInts$1 -/
theorem w_sort_SearchInts_1 {i0 : Int} {c1 : List Int} {c2 : Int} {c1_k : Nat} {c1_b : Option Addr} {c1_n : Nat} {c1_c : Nat} {c2_k : Nat} (w : World) (h_c1 : RS w [] (intC .i64) 1 c1_b c1_n c1_c c1) (h_c1_k : HB w [] c1_k [.slice c1_b c1_n c1_c]) (h_c2_k : HB w [] c2_k [.int .i64 c2]) {r0 : Bool} (H : m_sort_SearchInts_1 i0 c1 c2 = some r0) : Fnc Try.prog 100 #[.int .i64 i0, .pointer (some ⟨c1_k, 0, none⟩), .pointer (some ⟨c2_k, 0, none⟩)] w [] (fun v N => v = .bool r0 ∧ N = []) := by
  unfold m_sort_SearchInts_1 at H
  refine Fnc.enter (vs := [.int .i64 i0, .pointer (some ⟨c1_k, 0, none⟩), .pointer (some ⟨c2_k, 0, none⟩)]) Try.func100 rfl rfl (Inv.refl w) ?_
  refine T.seq ?_
  refine T.regionL (ll := [0]) rfl ?_
  refine TO.assign rfl rfl rfl rfl ?_
  refine TO.done ?_
  refine X.seq_normal ?_
  refine T.seq ?_
  obtain ⟨g1, H⟩ := gd_some H
  apply T.drawQT [(5, _), (6, _), (7, _), (8, _), (9, _)]
  · exact mixed
  · kernel_rfl
  · kernel_rfl
  · exact rfl
  · exact rfl
  · refine ⟨?_, ?_, ?_, ?_, ?_, trivial⟩
    · intro Es
      refine TO.ldHB h_c1_k rfl rfl rfl rfl rfl TWBS4a.s27 ?_
      exact TO.done (X.ob rfl (Pick.refl _))
    · intro Es
      refine TO.move rfl rfl rfl rfl ?_
      exact TO.done (X.ob rfl (Pick.refl _))
    · intro Es
      refine TO.ixR h_c1 g1 rfl rfl rfl rfl rfl TWBS4a.l27 TWBS4a.n3 ?_
      exact TO.done (X.ob rfl (Pick.refl _))
    · intro Es
      refine TO.ldIR h_c1 g1 rfl rfl rfl rfl TWBS4a.s3 ?_
      exact TO.done (X.ob rfl (Pick.refl _))
    · intro Es
      refine TO.ldHB h_c2_k rfl rfl rfl rfl rfl TWBS4a.s3 ?_
      exact TO.done (X.ob rfl (Pick.refl _))
  refine TO.bin rfl rfl rfl rfl rfl rfl ?_
  refine TO.assign rfl rfl rfl rfl ?_
  refine TO.done ?_
  refine X.seq_normal ?_
  refine T.trim (AllF.cons (t := 4) rfl AllF.nil) ?_
  refine T.ret ?_
  obtain rfl := ret1 H
  exact X.ret1 rfl rfl rfl rfl (Res.tmp rfl) Pick.nil ⟨rfl, rfl⟩
/-- sort.Search -/
theorem w_sort_Search_SearchInts_1 {n0 : Int} {f1_0 : List Int} {f1_1 : Int} {f1_0_k : Nat} {f1_0_b : Option Addr} {f1_0_n : Nat} {f1_0_c : Nat} {f1_1_k : Nat} (w : World) (h_f1_0 : RS w [] (intC .i64) 1 f1_0_b f1_0_n f1_0_c f1_0) (h_f1_0_k : HB w [] f1_0_k [.slice f1_0_b f1_0_n f1_0_c]) (h_f1_1_k : HB w [] f1_1_k [.int .i64 f1_1]) {r0 : Int} (H : m_sort_Search_SearchInts_1 n0 f1_0 f1_1 = some r0) : Fnc Try.prog 99 #[.int .i64 n0, .func (.func 100) #[] #[.pointer (some ⟨f1_0_k, 0, none⟩), .pointer (some ⟨f1_1_k, 0, none⟩)]] w [] (fun v N => v = .int .i64 r0 ∧ N = []) := by
  unfold m_sort_Search_SearchInts_1 at H
  refine Fnc.enter (vs := [.int .i64 n0, .func (.func 100) #[] #[.pointer (some ⟨f1_0_k, 0, none⟩), .pointer (some ⟨f1_1_k, 0, none⟩)]]) Try.func99 rfl rfl (Inv.refl w) ?_
  refine T.seq ?_
  refine T.regionL (ll := [0]) rfl ?_
  refine TO.assign rfl rfl rfl rfl ?_
  refine TO.done ?_
  refine X.seq_normal ?_
  refine T.seq ?_
  refine T.regionL (ll := [0, 1, 2]) rfl ?_
  refine TO.move rfl rfl rfl rfl ?_
  refine TO.assign rfl rfl rfl rfl ?_
  refine TO.assign rfl rfl rfl rfl ?_
  refine TO.done ?_
  refine X.seq_normal ?_
  refine T.seq ?_
  refine T.meetSE1 (fun (i11 : Int) => m_sort_Search_SearchInts_1_j2 i11 = some r0) (fun (i11 : Int) => [(5, .int .i64 i11)]) (fun (i11 : Int) => []) ?_ ?_
  ·
    refine T.block ?_
    obtain ⟨o_1, e_1, K_1⟩ := bd_some H
    refine T.loopE3 (fun (m_1 : Nat) (i1 : Int) (j2 : Int) => loopM (fun s => m_sort_Search_SearchInts_1_s1 f1_0 f1_1 s.1 s.2) m_1 (i1, j2) = some o_1) (fun (m_1 : Nat) (i1 : Int) (j2 : Int) => [(1, .func (.func 100) #[] #[.pointer (some ⟨f1_0_k, 0, none⟩), .pointer (some ⟨f1_1_k, 0, none⟩)]), (5, .int .i64 i1), (6, .int .i64 j2)]) (fun (m_1 : Nat) (i1 : Int) (j2 : Int) => []) (fun (m_1 : Nat) (i1 : Int) (j2 : Int) => m_1) FUEL 0 n0 e_1 (AllF.cons rfl (AllF.cons rfl (AllF.cons rfl AllF.nil))) Pick.nil ?_
    rintro m_1 i1 j2 H
    obtain ⟨n_1, r_1, rfl, H, C_1⟩ := loopM_some H
    have H : m_sort_Search_SearchInts_1_s1 f1_0 f1_1 i1 j2 = some r_1 := H
    unfold m_sort_Search_SearchInts_1_s1 at H
    refine T.seq ?_
    refine T.seq ?_
    refine T.regionL (ll := [0, 1, 2]) rfl ?_
    refine TO.move rfl rfl rfl rfl ?_
    refine TO.move rfl rfl rfl rfl ?_
    refine TO.bin rfl rfl rfl rfl rfl rfl ?_
    refine TO.done ?_
    refine X.seq_normal ?_
    rcases ite_some H with ⟨g3, H⟩ | ⟨g3, H⟩
    ·
      refine T.condPT rfl g3 ?_
      refine T.skip ?_
      refine X.seq_normal ?_
      refine T.block ?_
      refine T.seq ?_
      obtain ⟨g4, H⟩ := gd_some H
      obtain ⟨g5, H⟩ := gd_some H
      obtain ⟨g6, H⟩ := gd_some H
      refine T.regionL (ll := [0, 1, 2, 3, 4, 5, 6]) rfl ?_
      refine TO.move rfl rfl rfl rfl ?_
      refine TO.move rfl rfl rfl rfl ?_
      refine TO.addG g4 rfl rfl rfl rfl rfl ?_
      refine TO.convIn rfl rfl rfl rfl TWBS4a.o3 TWBS4a.i146 (wrap_u64_of g5) ?_
      refine TO.shrL (m := 1) rfl rfl rfl rfl rfl rfl rfl ?_
      refine TO.convIn rfl rfl rfl rfl TWBS4a.o146 TWBS4a.i3 (wrap_i64_of g6.1 g6.2) ?_
      refine TO.assign rfl rfl rfl rfl ?_
      refine TO.done ?_
      refine X.seq_normal ?_
      refine T.trim (AllF.cons (t := 1) rfl (AllF.cons (t := 5) rfl (AllF.cons (t := 6) rfl (AllF.cons (t := 7) rfl AllF.nil)))) ?_
      refine T.seq ?_
      obtain ⟨r7, e8, H⟩ := bd_some H
      refine T.regionL (ll := [0, 1, 2, 3]) rfl ?_
      refine TO.move rfl rfl rfl rfl ?_
      refine TO.move rfl rfl rfl rfl ?_
      refine TO.callVX TWBS4a.c100 rfl rfl rfl rfl rfl (fun wc hwc => w_sort_SearchInts_1 (i0 := (Int.fdiv (i1 + j2) (2 ^ 1))) (c1 := f1_0) (c2 := f1_1) wc (h_f1_0.mono hwc) (h_f1_0_k.mono hwc) (h_f1_1_k.mono hwc) e8) ?_
      rintro _ _ ⟨rfl, rfl⟩
      refine TO.not rfl rfl rfl rfl ?_
      refine TO.done ?_
      refine X.seq_normal ?_
      rcases ite_some H with ⟨g9, H⟩ | ⟨g9, H⟩
      ·
        refine T.condT rfl g9 ?_
        obtain ⟨g10, H⟩ := gd_some H
        refine T.regionL (ll := [0, 1, 2]) rfl ?_
        refine TO.move rfl rfl rfl rfl ?_
        refine TO.addG g10 rfl rfl rfl rfl rfl ?_
        refine TO.assign rfl rfl rfl rfl ?_
        refine TO.done ?_
        refine X.block_normal ?_
        have H := loop_next H C_1
        exact X.againE3 n_1 ((Int.fdiv (i1 + j2) (2 ^ 1)) + 1) j2 H (Nat.lt_succ_self _) (AllF.cons rfl (AllF.cons rfl (AllF.cons rfl AllF.nil))) Pick.nil
      ·
        refine T.condF rfl (Bool.eq_false_iff.2 g9) ?_
        refine T.regionL (ll := [0, 1]) rfl ?_
        refine TO.move rfl rfl rfl rfl ?_
        refine TO.assign rfl rfl rfl rfl ?_
        refine TO.done ?_
        refine X.block_normal ?_
        have H := loop_next H C_1
        exact X.againE3 n_1 i1 (Int.fdiv (i1 + j2) (2 ^ 1)) H (Nat.lt_succ_self _) (AllF.cons rfl (AllF.cons rfl (AllF.cons rfl AllF.nil))) Pick.nil
    ·
      refine T.condPF rfl g3 ?_
      refine T.exit ?_
      refine X.then_exit ?_
      have H := loop_exitE H C_1 ▸ K_1
      refine X.then_exit ?_
      refine X.block_here ?_
      exact X.metE1 i1 H (AllF.cons rfl AllF.nil) Pick.nil
  · rintro i11 H
    unfold m_sort_Search_SearchInts_1_j2 at H
    refine T.seq ?_
    refine T.regionL (ll := [0, 1]) rfl ?_
    refine TO.move rfl rfl rfl rfl ?_
    refine TO.assign rfl rfl rfl rfl ?_
    refine TO.done ?_
    refine X.seq_normal ?_
    refine T.ret ?_
    obtain rfl := ret1 H
    exact X.ret1 rfl rfl rfl rfl (Res.tmp rfl) Pick.nil ⟨rfl, rfl⟩
/-- sort.SearchInts -/
theorem w_sort_SearchInts {a0 : List Int} {x1 : Int} {a0_b : Option Addr} {a0_n : Nat} {a0_c : Nat} (w : World) (h_a0 : RS w [] (intC .i64) 1 a0_b a0_n a0_c a0) {r0 : Int} (H : m_sort_SearchInts a0 x1 = some r0) : Fnc Try.prog 76 #[.slice a0_b a0_n a0_c, .int .i64 x1] w [] (fun v N => v = .int .i64 r0 ∧ N = []) := by
  unfold m_sort_SearchInts at H
  refine Fnc.enter (vs := [.slice a0_b a0_n a0_c, .int .i64 x1]) Try.func76 rfl rfl (Inv.refl w) ?_
  refine T.seq ?_
  refine T.regionL (ll := [0, 1, 2]) rfl ?_
  refine TO.box rfl rfl rfl rfl ?_; intro b1
  refine TO.box rfl rfl rfl rfl ?_; intro b3
  refine TO.assign rfl rfl rfl rfl ?_
  refine TO.done ?_
  refine X.seq_normal ?_
  refine T.seq ?_
  obtain ⟨r5, e6, H⟩ := bd_some H
  refine T.regionL (ll := [0, 1, 2, 3, 4]) rfl ?_
  refine TO.load1 rfl rfl rfl rfl TWBS4a.s27 mm1 rfl ?_
  refine TO.lenX (xs := a0) h_a0.len rfl rfl rfl rfl rfl TWBS4a.l27 ?_
  refine TO.makeFunc rfl rfl rfl rfl rfl ?_
  refine TO.callX TWBS4a.c99 rfl rfl rfl rfl (fun wc hwc => w_sort_Search_SearchInts_1 (n0 := (a0.length : Int)) (f1_0 := a0) (f1_1 := x1) wc (h_a0.mono hwc) (hwc.hb (cs := [.slice a0_b a0_n a0_c]) mm1) (hwc.hb (cs := [.int .i64 x1]) mm0) e6) ?_
  rintro _ _ ⟨rfl, rfl⟩
  refine TO.assign rfl rfl rfl rfl ?_
  refine TO.done ?_
  refine X.seq_normal ?_
  refine T.trim (AllF.cons (t := 4) rfl AllF.nil) ?_
  refine T.ret ?_
  obtain rfl := ret1 H
  exact X.ret1 rfl rfl rfl rfl (Res.tmp rfl) Pick.nil ⟨rfl, rfl⟩
/-- acequia/csr.Tail -/
theorem w_csr_Tail {c0 : Csr} {a1 : Int} {c0f3_b : Option Addr} {c0f3_n : Nat} {c0f3_c : Nat} {c0f4_b : Option Addr} {c0f4_n : Nat} {c0f4_c : Nat} {c0f5_b : Option Addr} {c0f5_n : Nat} {c0f5_c : Nat} {c0f6_b : Option Addr} {c0f6_n : Nat} {c0f6_c : Nat} {c0f7_b : Option Addr} {c0f7_n : Nat} {c0f7_c : Nat} {c0f8_b : Option Addr} {c0f8_n : Nat} {c0f8_c : Nat} (w : World) (h_c0f3 : RS w [] (intC .i64) 1 c0f3_b c0f3_n c0f3_c c0.First) (h_c0f4 : RS w [] (intC .i64) 1 c0f4_b c0f4_n c0f4_c c0.Head) (h_c0f5 : RS w [] (intC .i64) 1 c0f5_b c0f5_n c0f5_c c0.Rev) (h_c0f6 : RS w [] (intC .i64) 1 c0f6_b c0f6_n c0f6_c c0.Cap) (h_c0f7 : RS w [] (intC .i64) 1 c0f7_b c0f7_n c0f7_c c0.Arc) (h_c0f8 : RS w [] boolC 1 c0f8_b c0f8_n c0f8_c c0.Back) {r0 : Int} {r1 : Bool} (H : m_csr_Tail c0 a1 = some (r0, r1)) : Fnc Try.prog 37 #[.agg #[.int .i64 c0.N, .int .i64 c0.S, .int .i64 c0.T, .slice c0f3_b c0f3_n c0f3_c, .slice c0f4_b c0f4_n c0f4_c, .slice c0f5_b c0f5_n c0f5_c, .slice c0f6_b c0f6_n c0f6_c, .slice c0f7_b c0f7_n c0f7_c, .slice c0f8_b c0f8_n c0f8_c], .int .i64 a1] w [] (fun v N => v = .tuple #[.int .i64 r0, .bool r1] ∧ N = []) := by
  unfold m_csr_Tail at H
  refine Fnc.enter (vs := [.agg #[.int .i64 c0.N, .int .i64 c0.S, .int .i64 c0.T, .slice c0f3_b c0f3_n c0f3_c, .slice c0f4_b c0f4_n c0f4_c, .slice c0f5_b c0f5_n c0f5_c, .slice c0f6_b c0f6_n c0f6_c, .slice c0f7_b c0f7_n c0f7_c, .slice c0f8_b c0f8_n c0f8_c], .int .i64 a1]) Try.func37 rfl rfl (Inv.refl w) ?_
  refine T.seq ?_
  refine T.regionL (ll := [0, 1, 2]) rfl ?_
  refine TO.boxA rfl rfl rfl rfl ?_; intro b1
  refine TO.assign rfl rfl rfl rfl ?_
  refine TO.assign rfl rfl rfl rfl ?_
  refine TO.done ?_
  refine X.seq_normal ?_
  refine T.seq ?_
  refine T.seq ?_
  refine T.meetSE1 (fun (x6 : Bool) => m_csr_Tail_j1 c0 a1 x6 = some (r0, r1)) (fun (x6 : Bool) => [(1, .int .i64 a1), (2, .pointer (some ⟨b1, 0, none⟩)), (13, .bool x6)]) (fun (x6 : Bool) => [(some b1, .cells #[.int .i64 c0.N, .int .i64 c0.S, .int .i64 c0.T, .slice c0f3_b c0f3_n c0f3_c, .slice c0f4_b c0f4_n c0f4_c, .slice c0f5_b c0f5_n c0f5_c, .slice c0f6_b c0f6_n c0f6_c, .slice c0f7_b c0f7_n c0f7_c, .slice c0f8_b c0f8_n c0f8_c] 32 (0, 0))]) ?_ ?_
  ·
    rcases ite_some H with ⟨g3, H⟩ | ⟨g3, H⟩
    ·
      refine T.regionL (ll := [0, 1, 2, 3, 4, 5, 6, 7]) rfl ?_
      refine TO.move rfl rfl rfl rfl ?_
      refine TO.bin rfl rfl rfl rfl rfl rfl ?_
      refine TO.move rfl rfl rfl rfl ?_
      refine TO.decB (t := 8) (b' := true) rfl (decide_eq_true g3) ?_
      refine TO.shut rfl rfl rfl rfl ?_
      refine TO.shut rfl rfl rfl rfl ?_
      refine TO.shut rfl rfl rfl rfl ?_
      refine TO.shut rfl rfl rfl rfl ?_
      refine TO.pickT rfl rfl rfl rfl rfl ?_
      refine TO.done ?_
      exact X.metE1 true H (AllF.cons rfl (AllF.cons rfl (AllF.cons rfl AllF.nil))) (Pick.cons tk0 Pick.nil)
    ·
      obtain ⟨r4, e5, H⟩ := bd_some H
      refine T.regionL (ll := [0, 1, 2, 3, 4, 5, 6, 7]) rfl ?_
      refine TO.move rfl rfl rfl rfl ?_
      refine TO.bin rfl rfl rfl rfl rfl rfl ?_
      refine TO.move rfl rfl rfl rfl ?_
      refine TO.decB (t := 8) (b' := false) rfl (decide_eq_false g3) ?_
      refine TO.move rfl rfl rfl rfl ?_
      refine TO.loadA rfl rfl rfl rfl TWBS4a.a32 mm0 rfl ?_
      refine TO.callX TWBS4a.c75 rfl rfl rfl rfl (fun wc hwc => w_csr_Len (c0 := c0) wc (h_c0f3.mono hwc) (h_c0f4.mono hwc) (h_c0f5.mono hwc) (h_c0f6.mono hwc) (h_c0f7.mono hwc) (h_c0f8.mono hwc) e5) ?_
      rintro _ _ ⟨rfl, rfl⟩
      refine TO.bin rfl rfl rfl rfl rfl rfl ?_
      refine TO.pickF rfl rfl rfl rfl rfl ?_
      refine TO.done ?_
      exact X.metE1 (decide (r4 ≤ a1)) H (AllF.cons rfl (AllF.cons rfl (AllF.cons rfl AllF.nil))) (Pick.cons tk0 Pick.nil)
  · rintro x6 H
    unfold m_csr_Tail_j1 at H
    rcases ite_some H with ⟨g7, H⟩ | ⟨g7, H⟩
    ·
      refine T.condT rfl g7 ?_
      refine T.seq ?_
      refine T.regionL (ll := [0, 1]) rfl ?_
      refine TO.assign rfl rfl rfl rfl ?_
      refine TO.assign rfl rfl rfl rfl ?_
      refine TO.done ?_
      refine X.seq_normal ?_
      refine T.ret ?_
      refine X.then_ret ?_
      obtain ⟨rfl, rfl⟩ := ret2 H
      exact X.ret2 rfl rfl rfl rfl (Res.tmp rfl) (Res.tmp rfl) Pick.nil ⟨rfl, rfl⟩
    ·
      refine T.condF rfl (Bool.eq_false_iff.2 g7) ?_
      refine T.skip ?_
      refine X.seq_normal ?_
      refine T.seq ?_
      obtain ⟨g8, H⟩ := gd_some H
      obtain ⟨r9, e10, H⟩ := bd_some H
      obtain ⟨g11, H⟩ := gd_some H
      refine T.regionL (ll := [0, 1, 2, 3, 4, 5, 6, 7]) rfl ?_
      refine TO.fieldAddr0 rfl rfl rfl rfl TWBS4a.f32_3 ?_
      refine TO.load1 rfl rfl rfl rfl TWBS4a.s27 mm0 rfl ?_
      refine TO.move rfl rfl rfl rfl ?_
      refine TO.addG g8 rfl rfl rfl rfl rfl ?_
      refine TO.callX TWBS4a.c76 rfl rfl rfl rfl (fun wc hwc => w_sort_SearchInts (a0 := c0.First) (x1 := (a1 + 1)) wc (h_c0f3.mono hwc) e10) ?_
      rintro _ _ ⟨rfl, rfl⟩
      refine TO.subG g11 rfl rfl rfl rfl rfl ?_
      refine TO.assign rfl rfl rfl rfl ?_
      refine TO.assign rfl rfl rfl rfl ?_
      refine TO.done ?_
      refine X.seq_normal ?_
      refine T.trim (AllF.cons (t := 4) rfl (AllF.cons (t := 5) rfl AllF.nil)) ?_
      refine T.ret ?_
      obtain ⟨rfl, rfl⟩ := ret2 H
      exact X.ret2 rfl rfl rfl rfl (Res.tmp rfl) (Res.tmp rfl) Pick.nil ⟨rfl, rfl⟩
/-- acequia/acequialow.Ints -/
theorem w_acequialow_Ints {a0 : List Int} {b1 : List Int} {a0_b : Option Addr} {a0_n : Nat} {a0_c : Nat} {b1_b : Option Addr} {b1_n : Nat} {b1_c : Nat} (w : World) (h_a0 : RS w [] (intC .i64) 1 a0_b a0_n a0_c a0) (h_b1 : RS w [] (intC .i64) 1 b1_b b1_n b1_c b1) {r0 : Bool} (H : m_acequialow_Ints a0 b1 = some r0) : Fnc Try.prog 25 #[.slice a0_b a0_n a0_c, .slice b1_b b1_n b1_c] w [] (fun v N => v = .bool r0 ∧ N = []) := by
  unfold m_acequialow_Ints at H
  refine Fnc.enter (vs := [.slice a0_b a0_n a0_c, .slice b1_b b1_n b1_c]) Try.func25 rfl rfl (Inv.refl w) ?_
  refine T.seq ?_
  refine T.regionL (ll := [0]) rfl ?_
  refine TO.assign rfl rfl rfl rfl ?_
  refine TO.done ?_
  refine X.seq_normal ?_
  refine T.seq ?_
  refine T.seq ?_
  refine T.regionL (ll := [0, 1, 2, 3, 4]) rfl ?_
  refine TO.move rfl rfl rfl rfl ?_
  refine TO.lenX (xs := a0) h_a0.len rfl rfl rfl rfl rfl TWBS4a.l27 ?_
  refine TO.move rfl rfl rfl rfl ?_
  refine TO.lenX (xs := b1) h_b1.len rfl rfl rfl rfl rfl TWBS4a.l27 ?_
  refine TO.bin rfl rfl rfl rfl rfl rfl ?_
  refine TO.done ?_
  refine X.seq_normal ?_
  rcases ite_some H with ⟨g1, H⟩ | ⟨g1, H⟩
  ·
    refine T.condPT rfl g1 ?_
    refine T.seq ?_
    refine T.regionL (ll := [0]) rfl ?_
    refine TO.assign rfl rfl rfl rfl ?_
    refine TO.done ?_
    refine X.seq_normal ?_
    refine T.ret ?_
    refine X.then_ret ?_
    obtain rfl := ret1 H
    exact X.ret1 rfl rfl rfl rfl (Res.tmp rfl) Pick.nil ⟨rfl, rfl⟩
  ·
    refine T.condPF rfl g1 ?_
    refine T.skip ?_
    refine X.seq_normal ?_
    refine T.seq ?_
    refine T.seq ?_
    refine T.regionL (ll := [0, 1, 2]) rfl ?_
    refine TO.move rfl rfl rfl rfl ?_
    refine TO.lenX (xs := a0) h_a0.len rfl rfl rfl rfl rfl TWBS4a.l27 ?_
    refine TO.move rfl rfl rfl rfl ?_
    refine TO.done ?_
    refine X.seq_normal ?_
    refine T.meetSE1 (fun (u8 : Unit) => m_acequialow_Ints_j2 = some r0) (fun (u8 : Unit) => []) (fun (u8 : Unit) => []) ?_ ?_
    ·
      refine T.block ?_
      obtain ⟨o_1, e_1, K_1⟩ := bd_some H
      refine T.loopE2 (fun (m_1 : Nat) (x2 : Int) => loopM (fun s => m_acequialow_Ints_s1 a0 b1 s) m_1 x2 = some o_1) (fun (m_1 : Nat) (x2 : Int) => [(0, .slice a0_b a0_n a0_c), (1, .slice b1_b b1_n b1_c), (12, .int .i64 (a0.length : Int)), (13, .int .i64 x2)]) (fun (m_1 : Nat) (x2 : Int) => []) (fun (m_1 : Nat) (x2 : Int) => m_1) FUEL 0 e_1 (AllF.cons rfl (AllF.cons rfl (AllF.cons rfl (AllF.cons rfl AllF.nil)))) Pick.nil ?_
      rintro m_1 x2 H
      obtain ⟨n_1, r_1, rfl, H, C_1⟩ := loopM_some H
      have H : m_acequialow_Ints_s1 a0 b1 x2 = some r_1 := H
      unfold m_acequialow_Ints_s1 at H
      refine T.seq ?_
      refine T.regionL (ll := [0]) rfl ?_
      refine TO.bin rfl rfl rfl rfl rfl rfl ?_
      refine TO.done ?_
      refine X.seq_normal ?_
      refine T.seq ?_
      rcases ite_some H with ⟨g3, H⟩ | ⟨g3, H⟩
      ·
        refine T.condPT rfl g3 ?_
        refine T.skip ?_
        refine X.seq_normal ?_
        refine T.seq ?_
        refine T.block ?_
        refine T.seq ?_
        refine T.regionL (ll := [0, 1]) rfl ?_
        refine TO.move rfl rfl rfl rfl ?_
        refine TO.assign rfl rfl rfl rfl ?_
        refine TO.done ?_
        refine X.seq_normal ?_
        refine T.seq ?_
        obtain ⟨g4, H⟩ := gd_some H
        obtain ⟨g5, H⟩ := gd_some H
        apply T.drawQT [(16, _), (17, _), (18, _), (19, _), (20, _), (21, _), (22, _), (23, _)]
        · exact mixed
        · kernel_rfl
        · kernel_rfl
        · exact rfl
        · exact rfl
        · refine ⟨?_, ?_, ?_, ?_, ?_, ?_, ?_, ?_, trivial⟩
          · intro Es
            refine TO.move rfl rfl rfl rfl ?_
            exact TO.done (X.ob rfl (Pick.refl _))
          · intro Es
            refine TO.move rfl rfl rfl rfl ?_
            exact TO.done (X.ob rfl (Pick.refl _))
          · intro Es
            refine TO.ixR h_a0 g4 rfl rfl rfl rfl rfl TWBS4a.l27 TWBS4a.n3 ?_
            exact TO.done (X.ob rfl (Pick.refl _))
          · intro Es
            refine TO.ldIR h_a0 g4 rfl rfl rfl rfl TWBS4a.s3 ?_
            exact TO.done (X.ob rfl (Pick.refl _))
          · intro Es
            refine TO.move rfl rfl rfl rfl ?_
            exact TO.done (X.ob rfl (Pick.refl _))
          · intro Es
            refine TO.move rfl rfl rfl rfl ?_
            exact TO.done (X.ob rfl (Pick.refl _))
          · intro Es
            refine TO.ixR h_b1 g5 rfl rfl rfl rfl rfl TWBS4a.l27 TWBS4a.n3 ?_
            exact TO.done (X.ob rfl (Pick.refl _))
          · intro Es
            refine TO.ldIR h_b1 g5 rfl rfl rfl rfl TWBS4a.s3 ?_
            exact TO.done (X.ob rfl (Pick.refl _))
        refine TO.bin rfl rfl rfl rfl rfl rfl ?_
        refine TO.done ?_
        refine X.seq_normal ?_
        refine T.trim (AllF.cons (t := 0) rfl (AllF.cons (t := 1) rfl (AllF.cons (t := 12) rfl (AllF.cons (t := 13) rfl (AllF.cons (t := 24) rfl AllF.nil))))) ?_
        rcases ite_some H with ⟨g6, H⟩ | ⟨g6, H⟩
        ·
          refine T.condPT rfl g6 ?_
          refine T.seq ?_
          refine T.regionL (ll := [0]) rfl ?_
          refine TO.assign rfl rfl rfl rfl ?_
          refine TO.done ?_
          refine X.seq_normal ?_
          refine T.ret ?_
          refine X.block_ret ?_
          refine X.then_ret ?_
          have H := loop_exitE H C_1 ▸ K_1
          refine X.then_ret ?_
          refine X.block_ret ?_
          refine X.then_ret ?_
          obtain rfl := ret1 H
          exact X.ret1 rfl rfl rfl rfl (Res.tmp rfl) Pick.nil ⟨rfl, rfl⟩
        ·
          refine T.condPF rfl g6 ?_
          refine T.skip ?_
          refine X.block_normal ?_
          refine X.seq_normal ?_
          obtain ⟨g7, H⟩ := gd_some H
          refine T.regionL (ll := [0, 1]) rfl ?_
          refine TO.addG g7 rfl rfl rfl rfl rfl ?_
          refine TO.move rfl rfl rfl rfl ?_
          refine TO.done ?_
          have H := loop_next H C_1
          exact X.againE2 n_1 (x2 + 1) H (Nat.lt_succ_self _) (AllF.cons rfl (AllF.cons rfl (AllF.cons rfl (AllF.cons rfl AllF.nil)))) Pick.nil
      ·
        refine T.condPF rfl g3 ?_
        refine T.exit ?_
        refine X.then_exit ?_
        have H := loop_exitE H C_1 ▸ K_1
        refine X.then_exit ?_
        refine X.block_here ?_
        exact X.metE1 () H AllF.nil Pick.nil
    · rintro u8 H
      unfold m_acequialow_Ints_j2 at H
      refine T.seq ?_
      refine T.regionL (ll := [0]) rfl ?_
      refine TO.assign rfl rfl rfl rfl ?_
      refine TO.done ?_
      refine X.seq_normal ?_
      refine T.ret ?_
      obtain rfl := ret1 H
      exact X.ret1 rfl rfl rfl rfl (Res.tmp rfl) Pick.nil ⟨rfl, rfl⟩
/-- acequia/acequialow.Longs -/
theorem w_acequialow_Longs {a0 : List Int} {b1 : List Int} {a0_b : Option Addr} {a0_n : Nat} {a0_c : Nat} {b1_b : Option Addr} {b1_n : Nat} {b1_c : Nat} (w : World) (h_a0 : RS w [] (intC .i64) 1 a0_b a0_n a0_c a0) (h_b1 : RS w [] (intC .i64) 1 b1_b b1_n b1_c b1) {r0 : Bool} (H : m_acequialow_Longs a0 b1 = some r0) : Fnc Try.prog 39 #[.slice a0_b a0_n a0_c, .slice b1_b b1_n b1_c] w [] (fun v N => v = .bool r0 ∧ N = []) := by
  unfold m_acequialow_Longs at H
  refine Fnc.enter (vs := [.slice a0_b a0_n a0_c, .slice b1_b b1_n b1_c]) Try.func39 rfl rfl (Inv.refl w) ?_
  refine T.seq ?_
  refine T.regionL (ll := [0]) rfl ?_
  refine TO.assign rfl rfl rfl rfl ?_
  refine TO.done ?_
  refine X.seq_normal ?_
  refine T.seq ?_
  refine T.seq ?_
  refine T.regionL (ll := [0, 1, 2, 3, 4]) rfl ?_
  refine TO.move rfl rfl rfl rfl ?_
  refine TO.lenX (xs := a0) h_a0.len rfl rfl rfl rfl rfl TWBS4a.l26 ?_
  refine TO.move rfl rfl rfl rfl ?_
  refine TO.lenX (xs := b1) h_b1.len rfl rfl rfl rfl rfl TWBS4a.l26 ?_
  refine TO.bin rfl rfl rfl rfl rfl rfl ?_
  refine TO.done ?_
  refine X.seq_normal ?_
  rcases ite_some H with ⟨g1, H⟩ | ⟨g1, H⟩
  ·
    refine T.condPT rfl g1 ?_
    refine T.seq ?_
    refine T.regionL (ll := [0]) rfl ?_
    refine TO.assign rfl rfl rfl rfl ?_
    refine TO.done ?_
    refine X.seq_normal ?_
    refine T.ret ?_
    refine X.then_ret ?_
    obtain rfl := ret1 H
    exact X.ret1 rfl rfl rfl rfl (Res.tmp rfl) Pick.nil ⟨rfl, rfl⟩
  ·
    refine T.condPF rfl g1 ?_
    refine T.skip ?_
    refine X.seq_normal ?_
    refine T.seq ?_
    refine T.seq ?_
    refine T.regionL (ll := [0, 1, 2]) rfl ?_
    refine TO.move rfl rfl rfl rfl ?_
    refine TO.lenX (xs := a0) h_a0.len rfl rfl rfl rfl rfl TWBS4a.l26 ?_
    refine TO.move rfl rfl rfl rfl ?_
    refine TO.done ?_
    refine X.seq_normal ?_
    refine T.meetSE1 (fun (u8 : Unit) => m_acequialow_Longs_j2 = some r0) (fun (u8 : Unit) => []) (fun (u8 : Unit) => []) ?_ ?_
    ·
      refine T.block ?_
      obtain ⟨o_1, e_1, K_1⟩ := bd_some H
      refine T.loopE2 (fun (m_1 : Nat) (x2 : Int) => loopM (fun s => m_acequialow_Longs_s1 a0 b1 s) m_1 x2 = some o_1) (fun (m_1 : Nat) (x2 : Int) => [(0, .slice a0_b a0_n a0_c), (1, .slice b1_b b1_n b1_c), (12, .int .i64 (a0.length : Int)), (13, .int .i64 x2)]) (fun (m_1 : Nat) (x2 : Int) => []) (fun (m_1 : Nat) (x2 : Int) => m_1) FUEL 0 e_1 (AllF.cons rfl (AllF.cons rfl (AllF.cons rfl (AllF.cons rfl AllF.nil)))) Pick.nil ?_
      rintro m_1 x2 H
      obtain ⟨n_1, r_1, rfl, H, C_1⟩ := loopM_some H
      have H : m_acequialow_Longs_s1 a0 b1 x2 = some r_1 := H
      unfold m_acequialow_Longs_s1 at H
      refine T.seq ?_
      refine T.regionL (ll := [0]) rfl ?_
      refine TO.bin rfl rfl rfl rfl rfl rfl ?_
      refine TO.done ?_
      refine X.seq_normal ?_
      refine T.seq ?_
      rcases ite_some H with ⟨g3, H⟩ | ⟨g3, H⟩
      ·
        refine T.condPT rfl g3 ?_
        refine T.skip ?_
        refine X.seq_normal ?_
        refine T.seq ?_
        refine T.block ?_
        refine T.seq ?_
        refine T.regionL (ll := [0, 1]) rfl ?_
        refine TO.move rfl rfl rfl rfl ?_
        refine TO.assign rfl rfl rfl rfl ?_
        refine TO.done ?_
        refine X.seq_normal ?_
        refine T.seq ?_
        obtain ⟨g4, H⟩ := gd_some H
        obtain ⟨g5, H⟩ := gd_some H
        apply T.drawQT [(16, _), (17, _), (18, _), (19, _), (20, _), (21, _), (22, _), (23, _)]
        · exact mixed
        · kernel_rfl
        · kernel_rfl
        · exact rfl
        · exact rfl
        · refine ⟨?_, ?_, ?_, ?_, ?_, ?_, ?_, ?_, trivial⟩
          · intro Es
            refine TO.move rfl rfl rfl rfl ?_
            exact TO.done (X.ob rfl (Pick.refl _))
          · intro Es
            refine TO.move rfl rfl rfl rfl ?_
            exact TO.done (X.ob rfl (Pick.refl _))
          · intro Es
            refine TO.ixR h_a0 g4 rfl rfl rfl rfl rfl TWBS4a.l26 TWBS4a.n2 ?_
            exact TO.done (X.ob rfl (Pick.refl _))
          · intro Es
            refine TO.ldIR h_a0 g4 rfl rfl rfl rfl TWBS4a.s2 ?_
            exact TO.done (X.ob rfl (Pick.refl _))
          · intro Es
            refine TO.move rfl rfl rfl rfl ?_
            exact TO.done (X.ob rfl (Pick.refl _))
          · intro Es
            refine TO.move rfl rfl rfl rfl ?_
            exact TO.done (X.ob rfl (Pick.refl _))
          · intro Es
            refine TO.ixR h_b1 g5 rfl rfl rfl rfl rfl TWBS4a.l26 TWBS4a.n2 ?_
            exact TO.done (X.ob rfl (Pick.refl _))
          · intro Es
            refine TO.ldIR h_b1 g5 rfl rfl rfl rfl TWBS4a.s2 ?_
            exact TO.done (X.ob rfl (Pick.refl _))
        refine TO.bin rfl rfl rfl rfl rfl rfl ?_
        refine TO.done ?_
        refine X.seq_normal ?_
        refine T.trim (AllF.cons (t := 0) rfl (AllF.cons (t := 1) rfl (AllF.cons (t := 12) rfl (AllF.cons (t := 13) rfl (AllF.cons (t := 24) rfl AllF.nil))))) ?_
        rcases ite_some H with ⟨g6, H⟩ | ⟨g6, H⟩
        ·
          refine T.condPT rfl g6 ?_
          refine T.seq ?_
          refine T.regionL (ll := [0]) rfl ?_
          refine TO.assign rfl rfl rfl rfl ?_
          refine TO.done ?_
          refine X.seq_normal ?_
          refine T.ret ?_
          refine X.block_ret ?_
          refine X.then_ret ?_
          have H := loop_exitE H C_1 ▸ K_1
          refine X.then_ret ?_
          refine X.block_ret ?_
          refine X.then_ret ?_
          obtain rfl := ret1 H
          exact X.ret1 rfl rfl rfl rfl (Res.tmp rfl) Pick.nil ⟨rfl, rfl⟩
        ·
          refine T.condPF rfl g6 ?_
          refine T.skip ?_
          refine X.block_normal ?_
          refine X.seq_normal ?_
          obtain ⟨g7, H⟩ := gd_some H
          refine T.regionL (ll := [0, 1]) rfl ?_
          refine TO.addG g7 rfl rfl rfl rfl rfl ?_
          refine TO.move rfl rfl rfl rfl ?_
          refine TO.done ?_
          have H := loop_next H C_1
          exact X.againE2 n_1 (x2 + 1) H (Nat.lt_succ_self _) (AllF.cons rfl (AllF.cons rfl (AllF.cons rfl (AllF.cons rfl AllF.nil)))) Pick.nil
      ·
        refine T.condPF rfl g3 ?_
        refine T.exit ?_
        refine X.then_exit ?_
        have H := loop_exitE H C_1 ▸ K_1
        refine X.then_exit ?_
        refine X.block_here ?_
        exact X.metE1 () H AllF.nil Pick.nil
    · rintro u8 H
      unfold m_acequialow_Longs_j2 at H
      refine T.seq ?_
      refine T.regionL (ll := [0]) rfl ?_
      refine TO.assign rfl rfl rfl rfl ?_
      refine TO.done ?_
      refine X.seq_normal ?_
      refine T.ret ?_
      obtain rfl := ret1 H
      exact X.ret1 rfl rfl rfl rfl (Res.tmp rfl) Pick.nil ⟨rfl, rfl⟩
end Go.Proofs.Ytjeenmabclghoaa.Ax
namespace Go.Proofs.Ytjeenmabclghoaa.Ax
open Go Go.Acq Go.RowKit Go.Proofs
set_option linter.unusedVariables false
set_option linter.unusedSimpArgs false
set_option maxHeartbeats 8000000
set_option maxRecDepth 20000
end Go.Proofs.Ytjeenmabclghoaa.Ax
