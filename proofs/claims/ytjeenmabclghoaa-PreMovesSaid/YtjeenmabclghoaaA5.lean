/- Texts of this claim, one behind the other. -/
import Derived.Test.YtjeenmabclghoaaA2
import Derived.Test.YtjeenmabclghoaaA4
namespace Go.Proofs.Ytjeenmabclghoaa.Ax
open Go Go.Acq Go.RowKit Go.Proofs
set_option linter.unusedVariables false
set_option linter.unusedSimpArgs false
set_option maxHeartbeats 8000000
set_option maxRecDepth 20000
theorem TWBS7.a29 : aggT Try.prog 29 3 = true := by kernel_rfl
theorem TWBS7.a32 : aggT Try.prog 32 9 = true := by kernel_rfl
theorem TWBS7.b2 : bytesT Try.prog 2 = some 8 := by kernel_rfl
theorem TWBS7.b3 : bytesT Try.prog 3 = some 8 := by kernel_rfl
theorem TWBS7.c108 : callable Try.prog 108 = true := by kernel_rfl
theorem TWBS7.c22 : callable Try.prog 22 = true := by kernel_rfl
theorem TWBS7.c37 : callable Try.prog 37 = true := by kernel_rfl
theorem TWBS7.c54 : callable Try.prog 54 = true := by kernel_rfl
theorem TWBS7.c58 : callable Try.prog 58 = true := by kernel_rfl
theorem TWBS7.c59 : callable Try.prog 59 = true := by kernel_rfl
theorem TWBS7.c60 : callable Try.prog 60 = true := by kernel_rfl
theorem TWBS7.c62 : callable Try.prog 62 = true := by kernel_rfl
theorem TWBS7.c63 : callable Try.prog 63 = true := by kernel_rfl
theorem TWBS7.c64 : callable Try.prog 64 = true := by kernel_rfl
theorem TWBS7.c65 : callable Try.prog 65 = true := by kernel_rfl
theorem TWBS7.c66 : callable Try.prog 66 = true := by kernel_rfl
theorem TWBS7.c67 : callable Try.prog 67 = true := by kernel_rfl
theorem TWBS7.c68 : callable Try.prog 68 = true := by kernel_rfl
theorem TWBS7.c70 : callable Try.prog 70 = true := by kernel_rfl
theorem TWBS7.c72 : callable Try.prog 72 = true := by kernel_rfl
theorem TWBS7.c91 : callable Try.prog 91 = true := by kernel_rfl
theorem TWBS7.c97 : callable Try.prog 97 = true := by kernel_rfl
theorem TWBS7.c98 : callable Try.prog 98 = true := by kernel_rfl
theorem TWBS7.f29_0 : fieldT Try.prog 29 0 = some 0 := by kernel_rfl
theorem TWBS7.f29_1 : fieldT Try.prog 29 1 = some 1 := by kernel_rfl
theorem TWBS7.f29_2 : fieldT Try.prog 29 2 = some 2 := by kernel_rfl
theorem TWBS7.f32_0 : fieldT Try.prog 32 0 = some 0 := by kernel_rfl
theorem TWBS7.f32_1 : fieldT Try.prog 32 1 = some 1 := by kernel_rfl
theorem TWBS7.f32_2 : fieldT Try.prog 32 2 = some 2 := by kernel_rfl
theorem TWBS7.f32_3 : fieldT Try.prog 32 3 = some 3 := by kernel_rfl
theorem TWBS7.f32_4 : fieldT Try.prog 32 4 = some 4 := by kernel_rfl
theorem TWBS7.f32_5 : fieldT Try.prog 32 5 = some 5 := by kernel_rfl
theorem TWBS7.f32_6 : fieldT Try.prog 32 6 = some 6 := by kernel_rfl
theorem TWBS7.f32_7 : fieldT Try.prog 32 7 = some 7 := by kernel_rfl
theorem TWBS7.f32_8 : fieldT Try.prog 32 8 = some 8 := by kernel_rfl
theorem TWBS7.l26 : sliceT Try.prog 26 = some 2 := by kernel_rfl
theorem TWBS7.l27 : sliceT Try.prog 27 = some 3 := by kernel_rfl
theorem TWBS7.l30 : sliceT Try.prog 30 = some 4 := by kernel_rfl
theorem TWBS7.n2 : sizeT Try.prog 2 = some 1 := by kernel_rfl
theorem TWBS7.n29 : sizeT Try.prog 29 = some 3 := by kernel_rfl
theorem TWBS7.n3 : sizeT Try.prog 3 = some 1 := by kernel_rfl
theorem TWBS7.n4 : sizeT Try.prog 4 = some 1 := by kernel_rfl
theorem TWBS7.s2 : scalT Try.prog 2 = true := by kernel_rfl
theorem TWBS7.s26 : scalT Try.prog 26 = true := by kernel_rfl
theorem TWBS7.s27 : scalT Try.prog 27 = true := by kernel_rfl
theorem TWBS7.s3 : scalT Try.prog 3 = true := by kernel_rfl
theorem TWBS7.s30 : scalT Try.prog 30 = true := by kernel_rfl
theorem TWBS7.s4 : scalT Try.prog 4 = true := by kernel_rfl
theorem TWBS7.z2 : zeroT Try.prog 2 = some (.int .i64 0) := by kernel_rfl
theorem TWBS7.z29 : zeroT Try.prog 29 = some (.agg #[.slice none 0 0, .slice none 0 0, .slice none 0 0]) := by kernel_rfl
theorem TWBS7.z3 : zeroT Try.prog 3 = some (.int .i64 0) := by kernel_rfl
theorem TWBS7.z4 : zeroT Try.prog 4 = some (.bool false) := by kernel_rfl
theorem TWBS7el26 : ElemT Try.prog 26 2 1 8 (.int .i64 0) := ⟨TWBS7.l26, TWBS7.n2, TWBS7.b2, TWBS7.z2, rfl⟩
theorem TWBS7el27 : ElemT Try.prog 27 3 1 8 (.int .i64 0) := ⟨TWBS7.l27, TWBS7.n3, TWBS7.b3, TWBS7.z3, rfl⟩
/-- slices.Clone[[]int64,int64] -/
theorem w_slices_Clone_int64 {s0 : List Int} {s0_b : Option Addr} {s0_n : Nat} {s0_c : Nat} (w : World) (h_s0 : RS w [] (intC .i64) 1 s0_b s0_n s0_c s0) {r0 : List Int} (H : m_slices_Clone_int64 s0 = some r0) : Fnc Try.prog 58 #[.slice s0_b s0_n s0_c] w [] (fun v N => ∃ (ob_0 : Option Nat) (n_0 : Nat) (c_0 : Nat) (j_0 : List Value), v = .slice (sb ob_0) n_0 c_0 ∧ N = [(ob_0, .cells (arr (intC .i64) r0 j_0).toArray 2 (0, 0))] ∧ r0.length = n_0 ∧ n_0 ≤ c_0 ∧ j_0.length = (c_0 - n_0) * 1 ∧ (ob_0 = none → c_0 = 0)) := by
  unfold m_slices_Clone_int64 at H
  refine Fnc.enter (vs := [.slice s0_b s0_n s0_c]) Try.func58 rfl rfl (Inv.refl w) ?_
  refine T.seq ?_
  refine T.regionL (ll := [0]) rfl ?_
  refine TO.assign rfl rfl rfl rfl ?_
  refine TO.done ?_
  refine X.seq_normal ?_
  refine T.seq ?_
  refine T.seq ?_
  by_cases g1 : s0_b = none
  ·
    have hx : s0 = [] := List.eq_nil_of_length_eq_zero (by rw [h_s0.len, h_s0.ro.nil g1])
    have H : (some ([])) = some r0 := by
      simp only [hx] at H ⊢
      first | exact H | exact (gd_some H).2
    refine T.regionL (ll := [0, 1]) rfl ?_
    refine TO.move rfl rfl rfl rfl ?_
    refine TO.eqnil rfl rfl rfl rfl rfl TWBS7.l26 ?_
    refine TO.decB (t := 4) (b' := true) rfl (by rw [g1]; rfl) ?_
    refine TO.done ?_
    refine X.seq_normal ?_
    refine T.condT rfl rfl ?_
    refine T.seq ?_
    refine T.regionL (ll := [0]) rfl ?_
    refine TO.assign rfl rfl rfl rfl ?_
    refine TO.done ?_
    refine X.seq_normal ?_
    refine T.ret ?_
    refine X.then_ret ?_
    obtain rfl := ret1 H
    exact X.ret1 rfl rfl rfl rfl (Res.tmp rfl) (Pick.none Pick.nil) ⟨none, 0, 0, ([]), rfl, rfl, rfl, (Nat.le_refl _), (zeroJ 0 _), (fun _ => rfl)⟩
  ·
    refine T.regionL (ll := [0, 1]) rfl ?_
    refine TO.move rfl rfl rfl rfl ?_
    refine TO.eqnil rfl rfl rfl rfl rfl TWBS7.l26 ?_
    refine TO.decB (t := 4) (b' := false) rfl (Option.isNone_eq_false_iff.2 (Option.isSome_iff_ne_none.2 g1)) ?_
    refine TO.done ?_
    refine X.seq_normal ?_
    refine T.condF rfl rfl ?_
    refine T.skip ?_
    refine X.seq_normal ?_
    refine T.seq ?_
    obtain ⟨g4, H⟩ := gd_some H
    refine T.regionL (ll := [0, 1, 2, 3]) rfl ?_
    refine TO.buildNone rfl rfl rfl TWBS7.l26 TWBS7.n2 ?_; intro b2
    refine TO.move rfl rfl rfl rfl ?_
    refine TO.app (f := (intC .i64)) (s := 1) (xs := ([] : List Int)) (ob := some b2) (j := ([])) (ys := s0) (fun _ => rfl) (fun _ => rfl) TWBS7el26 g4 rfl rfl rfl rfl rfl tk0 rfl (Nat.le_refl _) (zeroJ 0 _) someZ (fun wc hwc => (h_s0.mono hwc)) ?_; intro ob5 c6 j7 hc8 hj9 hz10
    refine TO.assign rfl rfl rfl rfl ?_
    refine TO.done ?_
    refine X.seq_normal ?_
    refine T.ret ?_
    obtain rfl := ret1 H
    exact X.ret1 rfl rfl rfl rfl (Res.tmp rfl) (Pick.cons tk0 Pick.nil) ⟨ob5, (0 + s0_n), c6, j7, rfl, rfl, (lenApp0 h_s0.len), hc8, hj9, hz10⟩
/-- acequia/pre.arcs -/
theorem w_pre_arcs {c0 : Csr} {u1 : Int} {c0f3_b : Option Addr} {c0f3_n : Nat} {c0f3_c : Nat} {c0f4_b : Option Addr} {c0f4_n : Nat} {c0f4_c : Nat} {c0f5_b : Option Addr} {c0f5_n : Nat} {c0f5_c : Nat} {c0f6_b : Option Addr} {c0f6_n : Nat} {c0f6_c : Nat} {c0f7_b : Option Addr} {c0f7_n : Nat} {c0f7_c : Nat} {c0f8_b : Option Addr} {c0f8_n : Nat} {c0f8_c : Nat} (w : World) (h_c0f3 : RS w [] (intC .i64) 1 c0f3_b c0f3_n c0f3_c c0.First) (h_c0f4 : RS w [] (intC .i64) 1 c0f4_b c0f4_n c0f4_c c0.Head) (h_c0f5 : RS w [] (intC .i64) 1 c0f5_b c0f5_n c0f5_c c0.Rev) (h_c0f6 : RS w [] (intC .i64) 1 c0f6_b c0f6_n c0f6_c c0.Cap) (h_c0f7 : RS w [] (intC .i64) 1 c0f7_b c0f7_n c0f7_c c0.Arc) (h_c0f8 : RS w [] boolC 1 c0f8_b c0f8_n c0f8_c c0.Back) (H : m_pre_arcs c0 u1 = some ()) : Fnc Try.prog 59 #[.agg #[.int .i64 c0.N, .int .i64 c0.S, .int .i64 c0.T, .slice c0f3_b c0f3_n c0f3_c, .slice c0f4_b c0f4_n c0f4_c, .slice c0f5_b c0f5_n c0f5_c, .slice c0f6_b c0f6_n c0f6_c, .slice c0f7_b c0f7_n c0f7_c, .slice c0f8_b c0f8_n c0f8_c], .int .i64 u1] w [] (fun v N => ∃ (b_0 : Nat) (b_1 : Nat), v = .func (.func 97) #[] #[.pointer (some ⟨b_0, 0, none⟩), .pointer (some ⟨b_1, 0, none⟩)] ∧ N = [(some b_0, .cells #[.int .i64 c0.N, .int .i64 c0.S, .int .i64 c0.T, .slice c0f3_b c0f3_n c0f3_c, .slice c0f4_b c0f4_n c0f4_c, .slice c0f5_b c0f5_n c0f5_c, .slice c0f6_b c0f6_n c0f6_c, .slice c0f7_b c0f7_n c0f7_c, .slice c0f8_b c0f8_n c0f8_c] 32 (0, 0)), (some b_1, .cells #[.int .i64 u1] 3 (0, 0))]) := by
  unfold m_pre_arcs at H
  refine Fnc.enter (vs := [.agg #[.int .i64 c0.N, .int .i64 c0.S, .int .i64 c0.T, .slice c0f3_b c0f3_n c0f3_c, .slice c0f4_b c0f4_n c0f4_c, .slice c0f5_b c0f5_n c0f5_c, .slice c0f6_b c0f6_n c0f6_c, .slice c0f7_b c0f7_n c0f7_c, .slice c0f8_b c0f8_n c0f8_c], .int .i64 u1]) Try.func59 rfl rfl (Inv.refl w) ?_
  refine T.seq ?_
  refine T.regionL (ll := [0, 1, 2]) rfl ?_
  refine TO.boxA rfl rfl rfl rfl ?_; intro b1
  refine TO.box rfl rfl rfl rfl ?_; intro b3
  refine TO.assign rfl rfl rfl rfl ?_
  refine TO.done ?_
  refine X.seq_normal ?_
  refine T.seq ?_
  refine T.regionL (ll := [0, 1]) rfl ?_
  refine TO.makeFunc rfl rfl rfl rfl rfl ?_
  refine TO.assign rfl rfl rfl rfl ?_
  refine TO.done ?_
  refine X.seq_normal ?_
  refine T.ret ?_
  exact X.ret1 rfl rfl rfl rfl (Res.tmp rfl) (Pick.cons tk1 (Pick.cons tk0 Pick.nil)) ⟨b1, b3, rfl, rfl⟩
/-- acequia/pre.arcs$1 -/
theorem w_pre_arcs_1 {S_ X_ : Type} {yy_ : S_ → Int → Option (S_ ⊕ X_)} {c1 : Csr} {c2 : Int} {tt_ : S_ ⊕ X_} {c1_k : Nat} {c1f3_b : Option Addr} {c1f3_n : Nat} {c1f3_c : Nat} {c1f4_b : Option Addr} {c1f4_n : Nat} {c1f4_c : Nat} {c1f5_b : Option Addr} {c1f5_n : Nat} {c1f5_c : Nat} {c1f6_b : Option Addr} {c1f6_n : Nat} {c1f6_c : Nat} {c1f7_b : Option Addr} {c1f7_n : Nat} {c1f7_c : Nat} {c1f8_b : Option Addr} {c1f8_n : Nat} {c1f8_c : Nat} {c2_k : Nat} {J_ : S_ ⊕ X_ → Heap → Prop} {l_ : Nat} {Hs0_ : Heap} (w : World) (hin : Inv w (ids Hs0_) w Hs0_) (hJ0_ : J_ tt_ Hs0_) (hY_ : YC Try.prog l_ (V := Int) (fun v => [.int .i64 v]) yy_ J_ w (ids Hs0_)) (h_c1f3 : RS w (ids Hs0_) (intC .i64) 1 c1f3_b c1f3_n c1f3_c c1.First) (h_c1f4 : RS w (ids Hs0_) (intC .i64) 1 c1f4_b c1f4_n c1f4_c c1.Head) (h_c1f5 : RS w (ids Hs0_) (intC .i64) 1 c1f5_b c1f5_n c1f5_c c1.Rev) (h_c1f6 : RS w (ids Hs0_) (intC .i64) 1 c1f6_b c1f6_n c1f6_c c1.Cap) (h_c1f7 : RS w (ids Hs0_) (intC .i64) 1 c1f7_b c1f7_n c1f7_c c1.Arc) (h_c1f8 : RS w (ids Hs0_) boolC 1 c1f8_b c1f8_n c1f8_c c1.Back) (h_c1_k : HB w (ids Hs0_) c1_k [.int .i64 c1.N, .int .i64 c1.S, .int .i64 c1.T, .slice c1f3_b c1f3_n c1f3_c, .slice c1f4_b c1f4_n c1f4_c, .slice c1f5_b c1f5_n c1f5_c, .slice c1f6_b c1f6_n c1f6_c, .slice c1f7_b c1f7_n c1f7_c, .slice c1f8_b c1f8_n c1f8_c]) (h_c2_k : HB w (ids Hs0_) c2_k [.int .i64 c2]) {r_t : S_ ⊕ X_} (H : m_pre_arcs_1 yy_ c1 c2 tt_ = some r_t) : Fnc Try.prog 97 #[.func (.yield l_) #[] #[], .pointer (some ⟨c1_k, 0, none⟩), .pointer (some ⟨c2_k, 0, none⟩)] w (ids Hs0_) (fun v N => v = .tuple #[] ∧ J_ r_t N) := by
  unfold m_pre_arcs_1 at H
  refine Fnc.enter (vs := [.func (.yield l_) #[] #[], .pointer (some ⟨c1_k, 0, none⟩), .pointer (some ⟨c2_k, 0, none⟩)]) Try.func97 rfl rfl hin ?_
  refine T.seq ?_
  obtain ⟨g1, H⟩ := gd_some H
  refine T.regionL (ll := [0, 1, 2, 3, 4, 5]) rfl ?_
  refine TO.fieldAddr0 rfl rfl rfl rfl TWBS7.f32_3 ?_
  refine TO.ldHB h_c1_k rfl rfl rfl rfl rfl TWBS7.s27 ?_
  refine TO.ldHB h_c2_k rfl rfl rfl rfl rfl TWBS7.s3 ?_
  refine TO.ixR h_c1f3 g1 rfl rfl rfl rfl rfl TWBS7.l27 TWBS7.n3 ?_
  refine TO.ldIR h_c1f3 g1 rfl rfl rfl rfl TWBS7.s3 ?_
  refine TO.assign rfl rfl rfl rfl ?_
  refine TO.done ?_
  refine X.seq_normal ?_
  refine T.block ?_
  obtain ⟨o_1, e_1, K_1⟩ := bd_some H
  refine T.loopE4 (fun (m_1 : Nat) (a2 : Int) (Hs3 : Heap) (tt4 : S_ ⊕ X_) => loopM (fun s => m_pre_arcs_1_s1 yy_ c1 c2 s.1 s.2) m_1 (a2, tt4) = some o_1 ∧ J_ tt4 Hs3) (fun (m_1 : Nat) (a2 : Int) (Hs3 : Heap) (tt4 : S_ ⊕ X_) => [(0, .func (.yield l_) #[] #[]), (1, .pointer (some ⟨c1_k, 0, none⟩)), (2, .pointer (some ⟨c2_k, 0, none⟩)), (4, .int .i64 a2)]) (fun (m_1 : Nat) (a2 : Int) (Hs3 : Heap) (tt4 : S_ ⊕ X_) => (Hs3)) (fun (m_1 : Nat) (a2 : Int) (Hs3 : Heap) (tt4 : S_ ⊕ X_) => m_1) FUEL (c1.First.getD c2.toNat 0) Hs0_ tt_ ⟨e_1, hJ0_⟩ (AllF.cons rfl (AllF.cons rfl (AllF.cons rfl (AllF.cons rfl AllF.nil)))) (Pick.refl _) ?_
  rintro m_1 a2 Hs3 tt4 ⟨H, hJ5⟩
  obtain ⟨n_1, r_1, rfl, H, C_1⟩ := loopM_some H
  have H : m_pre_arcs_1_s1 yy_ c1 c2 a2 tt4 = some r_1 := H
  unfold m_pre_arcs_1_s1 at H
  refine T.seq ?_
  refine T.seq ?_
  obtain ⟨g6, H⟩ := gd_some H
  obtain ⟨g7, H⟩ := gd_some H
  refine T.regionL (ll := [0, 1, 2, 3, 4, 5, 6, 7]) rfl ?_
  refine TO.move rfl rfl rfl rfl ?_
  refine TO.fieldAddr0 rfl rfl rfl rfl TWBS7.f32_3 ?_
  refine TO.ldHB h_c1_k rfl rfl rfl rfl rfl TWBS7.s27 ?_
  refine TO.ldHB h_c2_k rfl rfl rfl rfl rfl TWBS7.s3 ?_
  refine TO.addG g6 rfl rfl rfl rfl rfl ?_
  refine TO.ixR h_c1f3 g7 rfl rfl rfl rfl rfl TWBS7.l27 TWBS7.n3 ?_
  refine TO.ldIR h_c1f3 g7 rfl rfl rfl rfl TWBS7.s3 ?_
  refine TO.bin rfl rfl rfl rfl rfl rfl ?_
  refine TO.done ?_
  refine X.seq_normal ?_
  rcases ite_some H with ⟨g8, H⟩ | ⟨g8, H⟩
  ·
    refine T.condPT rfl g8 ?_
    refine T.skip ?_
    refine X.seq_normal ?_
    refine T.trim (AllF.cons (t := 0) rfl (AllF.cons (t := 1) rfl (AllF.cons (t := 2) rfl (AllF.cons (t := 4) rfl AllF.nil)))) ?_
    refine T.seq ?_
    refine T.block ?_
    refine T.seq ?_
    obtain ⟨tt9, e10, H⟩ := bd_some H
    refine T.regionL (ll := [0, 1, 2, 3]) rfl ?_
    refine TO.move rfl rfl rfl rfl ?_
    refine TO.move rfl rfl rfl rfl ?_
    refine TO.yield (Ho := []) (v := a2) rfl hY_ e10 hJ5 rfl rfl rfl rfl rfl rfl ?_
    intro Hs11 hJ12
    refine TO.reheap (H := (Hs11)) rfl ?_
    refine TO.not rfl rfl rfl rfl ?_
    refine TO.done ?_
    refine X.seq_normal ?_
    rcases ite_some H with ⟨g13, H⟩ | ⟨g13, H⟩
    ·
      refine T.condT rfl g13 ?_
      refine T.ret ?_
      refine X.block_ret ?_
      refine X.then_ret ?_
      have H := loop_exitE H C_1 ▸ K_1
      refine X.then_ret ?_
      refine X.block_ret ?_
      obtain rfl := ret1 H
      exact X.ret0 rfl rfl rfl rfl  (Pick.refl _) ⟨rfl, hJ12⟩
    ·
      refine T.condF rfl (Bool.eq_false_iff.2 g13) ?_
      refine T.skip ?_
      refine X.block_normal ?_
      refine X.seq_normal ?_
      obtain ⟨g14, H⟩ := gd_some H
      refine T.regionL (ll := [0, 1, 2]) rfl ?_
      refine TO.move rfl rfl rfl rfl ?_
      refine TO.addG g14 rfl rfl rfl rfl rfl ?_
      refine TO.assign rfl rfl rfl rfl ?_
      refine TO.done ?_
      have H := loop_next H C_1
      exact X.againE4 n_1 (a2 + 1) Hs11 tt9 ⟨H, hJ12⟩ (Nat.lt_succ_self _) (AllF.cons rfl (AllF.cons rfl (AllF.cons rfl (AllF.cons rfl AllF.nil)))) (Pick.refl _)
  ·
    refine T.condPF rfl g8 ?_
    refine T.exit ?_
    refine X.then_exit ?_
    have H := loop_exitE H C_1 ▸ K_1
    refine X.then_exit ?_
    refine X.block_here ?_
    refine X.fall ?_
    obtain rfl := ret1 H
    exact X.ret0 rfl rfl rfl rfl  (Pick.refl _) ⟨rfl, hJ5⟩
/-- acequia/pre.move -/
theorem w_pre_move {c0 : Csr} {p1 : Pre} {a2 : Int} {d3 : Int} {c0f3_b : Option Addr} {c0f3_n : Nat} {c0f3_c : Nat} {c0f4_b : Option Addr} {c0f4_n : Nat} {c0f4_c : Nat} {c0f5_b : Option Addr} {c0f5_n : Nat} {c0f5_c : Nat} {c0f6_b : Option Addr} {c0f6_n : Nat} {c0f6_c : Nat} {c0f7_b : Option Addr} {c0f7_n : Nat} {c0f7_c : Nat} {c0f8_b : Option Addr} {c0f8_n : Nat} {c0f8_c : Nat} {p1_k : Nat} {p1f0_o : Option Nat} {p1f0_n : Nat} {p1f0_c : Nat} {p1f0_j : List Value} {p1f1_o : Option Nat} {p1f1_n : Nat} {p1f1_c : Nat} {p1f1_j : List Value} {p1f2_b : Option Addr} {p1f2_n : Nat} {p1f2_c : Nat} (w : World) (hin : Inv w (([(some p1_k, .cells #[.slice (sb p1f0_o) p1f0_n p1f0_c, .slice (sb p1f1_o) p1f1_n p1f1_c, .slice p1f2_b p1f2_n p1f2_c] 29 (0, 0)), (p1f0_o, .cells (arr (intC .i64) p1.Res p1f0_j).toArray 2 (0, 0)), (p1f1_o, .cells (arr (intC .i64) p1.Ex p1f1_j).toArray 2 (0, 0))] : Heap).filterMap (·.1)) w [(some p1_k, .cells #[.slice (sb p1f0_o) p1f0_n p1f0_c, .slice (sb p1f1_o) p1f1_n p1f1_c, .slice p1f2_b p1f2_n p1f2_c] 29 (0, 0)), (p1f0_o, .cells (arr (intC .i64) p1.Res p1f0_j).toArray 2 (0, 0)), (p1f1_o, .cells (arr (intC .i64) p1.Ex p1f1_j).toArray 2 (0, 0))]) (h_c0f3 : RS w (([(some p1_k, .cells #[.slice (sb p1f0_o) p1f0_n p1f0_c, .slice (sb p1f1_o) p1f1_n p1f1_c, .slice p1f2_b p1f2_n p1f2_c] 29 (0, 0)), (p1f0_o, .cells (arr (intC .i64) p1.Res p1f0_j).toArray 2 (0, 0)), (p1f1_o, .cells (arr (intC .i64) p1.Ex p1f1_j).toArray 2 (0, 0))] : Heap).filterMap (·.1)) (intC .i64) 1 c0f3_b c0f3_n c0f3_c c0.First) (h_c0f4 : RS w (([(some p1_k, .cells #[.slice (sb p1f0_o) p1f0_n p1f0_c, .slice (sb p1f1_o) p1f1_n p1f1_c, .slice p1f2_b p1f2_n p1f2_c] 29 (0, 0)), (p1f0_o, .cells (arr (intC .i64) p1.Res p1f0_j).toArray 2 (0, 0)), (p1f1_o, .cells (arr (intC .i64) p1.Ex p1f1_j).toArray 2 (0, 0))] : Heap).filterMap (·.1)) (intC .i64) 1 c0f4_b c0f4_n c0f4_c c0.Head) (h_c0f5 : RS w (([(some p1_k, .cells #[.slice (sb p1f0_o) p1f0_n p1f0_c, .slice (sb p1f1_o) p1f1_n p1f1_c, .slice p1f2_b p1f2_n p1f2_c] 29 (0, 0)), (p1f0_o, .cells (arr (intC .i64) p1.Res p1f0_j).toArray 2 (0, 0)), (p1f1_o, .cells (arr (intC .i64) p1.Ex p1f1_j).toArray 2 (0, 0))] : Heap).filterMap (·.1)) (intC .i64) 1 c0f5_b c0f5_n c0f5_c c0.Rev) (h_c0f6 : RS w (([(some p1_k, .cells #[.slice (sb p1f0_o) p1f0_n p1f0_c, .slice (sb p1f1_o) p1f1_n p1f1_c, .slice p1f2_b p1f2_n p1f2_c] 29 (0, 0)), (p1f0_o, .cells (arr (intC .i64) p1.Res p1f0_j).toArray 2 (0, 0)), (p1f1_o, .cells (arr (intC .i64) p1.Ex p1f1_j).toArray 2 (0, 0))] : Heap).filterMap (·.1)) (intC .i64) 1 c0f6_b c0f6_n c0f6_c c0.Cap) (h_c0f7 : RS w (([(some p1_k, .cells #[.slice (sb p1f0_o) p1f0_n p1f0_c, .slice (sb p1f1_o) p1f1_n p1f1_c, .slice p1f2_b p1f2_n p1f2_c] 29 (0, 0)), (p1f0_o, .cells (arr (intC .i64) p1.Res p1f0_j).toArray 2 (0, 0)), (p1f1_o, .cells (arr (intC .i64) p1.Ex p1f1_j).toArray 2 (0, 0))] : Heap).filterMap (·.1)) (intC .i64) 1 c0f7_b c0f7_n c0f7_c c0.Arc) (h_c0f8 : RS w (([(some p1_k, .cells #[.slice (sb p1f0_o) p1f0_n p1f0_c, .slice (sb p1f1_o) p1f1_n p1f1_c, .slice p1f2_b p1f2_n p1f2_c] 29 (0, 0)), (p1f0_o, .cells (arr (intC .i64) p1.Res p1f0_j).toArray 2 (0, 0)), (p1f1_o, .cells (arr (intC .i64) p1.Ex p1f1_j).toArray 2 (0, 0))] : Heap).filterMap (·.1)) boolC 1 c0f8_b c0f8_n c0f8_c c0.Back) (h_p1f0_l : p1.Res.length = p1f0_n) (h_p1f0_c : p1f0_n ≤ p1f0_c) (h_p1f0_j : p1f0_j.length = (p1f0_c - p1f0_n) * 1) (h_p1f0_z : (p1f0_o = none → p1f0_c = 0)) (h_p1f1_l : p1.Ex.length = p1f1_n) (h_p1f1_c : p1f1_n ≤ p1f1_c) (h_p1f1_j : p1f1_j.length = (p1f1_c - p1f1_n) * 1) (h_p1f1_z : (p1f1_o = none → p1f1_c = 0)) (h_p1f2 : RS w (([(some p1_k, .cells #[.slice (sb p1f0_o) p1f0_n p1f0_c, .slice (sb p1f1_o) p1f1_n p1f1_c, .slice p1f2_b p1f2_n p1f2_c] 29 (0, 0)), (p1f0_o, .cells (arr (intC .i64) p1.Res p1f0_j).toArray 2 (0, 0)), (p1f1_o, .cells (arr (intC .i64) p1.Ex p1f1_j).toArray 2 (0, 0))] : Heap).filterMap (·.1)) (intC .i64) 1 p1f2_b p1f2_n p1f2_c p1.H) {o0 : Pre} (H : m_pre_move c0 p1 a2 d3 = some o0) : Fnc Try.prog 60 #[.agg #[.int .i64 c0.N, .int .i64 c0.S, .int .i64 c0.T, .slice c0f3_b c0f3_n c0f3_c, .slice c0f4_b c0f4_n c0f4_c, .slice c0f5_b c0f5_n c0f5_c, .slice c0f6_b c0f6_n c0f6_c, .slice c0f7_b c0f7_n c0f7_c, .slice c0f8_b c0f8_n c0f8_c], .pointer (some ⟨p1_k, 0, none⟩), .int .i64 a2, .int .i64 d3] w (([(some p1_k, .cells #[.slice (sb p1f0_o) p1f0_n p1f0_c, .slice (sb p1f1_o) p1f1_n p1f1_c, .slice p1f2_b p1f2_n p1f2_c] 29 (0, 0)), (p1f0_o, .cells (arr (intC .i64) p1.Res p1f0_j).toArray 2 (0, 0)), (p1f1_o, .cells (arr (intC .i64) p1.Ex p1f1_j).toArray 2 (0, 0))] : Heap).filterMap (·.1)) (fun v N => v = .tuple #[] ∧ N = [(some p1_k, .cells #[.slice (sb p1f0_o) p1f0_n p1f0_c, .slice (sb p1f1_o) p1f1_n p1f1_c, .slice p1f2_b p1f2_n p1f2_c] 29 (0, 0)), (p1f0_o, .cells (arr (intC .i64) o0.Res p1f0_j).toArray 2 (0, 0)), (p1f1_o, .cells (arr (intC .i64) o0.Ex p1f1_j).toArray 2 (0, 0))] ∧ o0.Res.length = p1f0_n ∧ o0.Ex.length = p1f1_n) := by
  unfold m_pre_move at H
  refine Fnc.enter (vs := [.agg #[.int .i64 c0.N, .int .i64 c0.S, .int .i64 c0.T, .slice c0f3_b c0f3_n c0f3_c, .slice c0f4_b c0f4_n c0f4_c, .slice c0f5_b c0f5_n c0f5_c, .slice c0f6_b c0f6_n c0f6_c, .slice c0f7_b c0f7_n c0f7_c, .slice c0f8_b c0f8_n c0f8_c], .pointer (some ⟨p1_k, 0, none⟩), .int .i64 a2, .int .i64 d3]) Try.func60 rfl rfl hin ?_
  refine T.seq ?_
  refine T.regionL (ll := [0]) rfl ?_
  refine TO.boxA rfl rfl rfl rfl ?_; intro b4
  refine TO.done ?_
  refine X.seq_normal ?_
  refine T.seq ?_
  obtain ⟨g6, H⟩ := gd_some H
  obtain ⟨g7, H⟩ := gd_some H
  refine T.drawS 7 [0, 1, 2, 3, 4, 5, 6] rfl mixed (by kernel_rfl) (by kernel_rfl) rfl (by kernel_rfl) ?_
  refine TQ.fieldAddr0 rfl rfl rfl rfl TWBS7.f32_4 ?_
  refine TQ.load1 rfl rfl rfl rfl TWBS7.s27 mm0 rfl ?_
  refine TQ.fieldAddr0 rfl rfl rfl rfl TWBS7.f32_5 ?_
  refine TQ.load1 rfl rfl rfl rfl TWBS7.s27 mm0 rfl ?_
  refine TQ.move rfl rfl rfl rfl ?_
  refine TQ.ixR h_c0f5 g6 rfl rfl rfl rfl rfl TWBS7.l27 TWBS7.n3 ?_
  refine TQ.ldIR h_c0f5 g6 rfl rfl rfl rfl TWBS7.s3 ?_
  refine TQ.tail [7, 8, 9] rfl rfl ?_
  refine TO.ixR h_c0f4 g7 rfl rfl rfl rfl rfl TWBS7.l27 TWBS7.n3 ?_
  refine TO.ldIR h_c0f4 g7 rfl rfl rfl rfl TWBS7.s3 ?_
  refine TO.assign rfl rfl rfl rfl ?_
  refine TO.done ?_
  refine X.seq_normal ?_
  refine T.trim (AllF.cons (t := 1) rfl (AllF.cons (t := 2) rfl (AllF.cons (t := 3) rfl (AllF.cons (t := 4) rfl (AllF.cons (t := 8) rfl AllF.nil))))) ?_
  refine T.seq ?_
  obtain ⟨g8, H⟩ := gd_some H
  obtain ⟨g9, H⟩ := gd_some H
  obtain ⟨g10, H⟩ := gd_some H
  refine T.regionL (ll := [0, 1, 2, 3, 4, 5, 6, 7, 8, 9, 10]) rfl ?_
  refine TO.move rfl rfl rfl rfl ?_
  refine TO.nilCheck rfl rfl rfl rfl ?_
  refine TO.fieldAddr0 rfl rfl rfl rfl TWBS7.f29_0 ?_
  refine TO.load1 rfl rfl rfl rfl TWBS7.s26 mm1 rfl ?_
  refine TO.move rfl rfl rfl rfl ?_
  refine TO.ixV h_p1f0_z h_p1f0_c h_p1f0_l g8 rfl rfl rfl rfl rfl TWBS7.l26 TWBS7.n2 ?_
  refine TO.ldIV h_p1f0_z h_p1f0_c h_p1f0_l g8 rfl rfl rfl rfl TWBS7.s2 mm2 ?_
  refine TO.move rfl rfl rfl rfl ?_
  refine TO.subG g9 rfl rfl rfl rfl rfl ?_
  refine TO.ixV h_p1f0_z h_p1f0_c h_p1f0_l g10 rfl rfl rfl rfl rfl TWBS7.l26 TWBS7.n2 ?_
  refine TO.stIV h_p1f0_z h_p1f0_c h_p1f0_l g10 rfl rfl rfl rfl tk2 TWBS7.n2 ?_
  refine TO.done ?_
  refine X.seq_normal ?_
  refine T.trim (AllF.cons (t := 1) rfl (AllF.cons (t := 2) rfl (AllF.cons (t := 3) rfl (AllF.cons (t := 4) rfl (AllF.cons (t := 8) rfl AllF.nil))))) ?_
  refine T.seq ?_
  obtain ⟨g11, H⟩ := gd_some H
  obtain ⟨g12, H⟩ := gd_some H
  obtain ⟨g13, H⟩ := gd_some H
  obtain ⟨g14, H⟩ := gd_some H
  refine T.drawS 12 [0, 1, 2, 3, 4, 5, 6, 7, 8, 9, 10, 11] rfl mixed (by kernel_rfl) (by kernel_rfl) rfl (by kernel_rfl) ?_
  refine TQ.move rfl rfl rfl rfl ?_
  refine TQ.nilCheck rfl rfl rfl rfl ?_
  refine TQ.fieldAddr0 rfl rfl rfl rfl TWBS7.f29_0 ?_
  refine TQ.load1 rfl rfl rfl rfl TWBS7.s26 mm2 rfl ?_
  refine TQ.fieldAddr0 rfl rfl rfl rfl TWBS7.f32_5 ?_
  refine TQ.load1 rfl rfl rfl rfl TWBS7.s27 mm1 rfl ?_
  refine TQ.move rfl rfl rfl rfl ?_
  refine TQ.ixR h_c0f5 g11 rfl rfl rfl rfl rfl TWBS7.l27 TWBS7.n3 ?_
  refine TQ.ldIR h_c0f5 g11 rfl rfl rfl rfl TWBS7.s3 ?_
  refine TQ.ixV h_p1f0_z h_p1f0_c (List.length_set.trans h_p1f0_l) g12 rfl rfl rfl rfl rfl TWBS7.l26 TWBS7.n2 ?_
  refine TQ.ldIV h_p1f0_z h_p1f0_c (List.length_set.trans h_p1f0_l) g12 rfl rfl rfl rfl TWBS7.s2 mm0 ?_
  refine TQ.move rfl rfl rfl rfl ?_
  refine TQ.tail [12, 13, 14] rfl rfl ?_
  refine TO.addG g13 rfl rfl rfl rfl rfl ?_
  refine TO.ixV h_p1f0_z h_p1f0_c (List.length_set.trans h_p1f0_l) g14 rfl rfl rfl rfl rfl TWBS7.l26 TWBS7.n2 ?_
  refine TO.stIV h_p1f0_z h_p1f0_c (List.length_set.trans h_p1f0_l) g14 rfl rfl rfl rfl tk0 TWBS7.n2 ?_
  refine TO.done ?_
  refine X.seq_normal ?_
  refine T.trim (AllF.cons (t := 1) rfl (AllF.cons (t := 2) rfl (AllF.cons (t := 3) rfl (AllF.cons (t := 4) rfl (AllF.cons (t := 8) rfl AllF.nil))))) ?_
  refine T.seq ?_
  obtain ⟨g15, H⟩ := gd_some H
  obtain ⟨g16, H⟩ := gd_some H
  obtain ⟨g17, H⟩ := gd_some H
  refine T.regionL (ll := [0, 1, 2, 3, 4, 5, 6, 7, 8, 9, 10]) rfl ?_
  refine TO.move rfl rfl rfl rfl ?_
  refine TO.nilCheck rfl rfl rfl rfl ?_
  refine TO.fieldAddr0 rfl rfl rfl rfl TWBS7.f29_1 ?_
  refine TO.load1 rfl rfl rfl rfl TWBS7.s26 mm2 rfl ?_
  refine TO.move rfl rfl rfl rfl ?_
  refine TO.ixV h_p1f1_z h_p1f1_c h_p1f1_l g15 rfl rfl rfl rfl rfl TWBS7.l26 TWBS7.n2 ?_
  refine TO.ldIV h_p1f1_z h_p1f1_c h_p1f1_l g15 rfl rfl rfl rfl TWBS7.s2 mm3 ?_
  refine TO.move rfl rfl rfl rfl ?_
  refine TO.subG g16 rfl rfl rfl rfl rfl ?_
  refine TO.ixV h_p1f1_z h_p1f1_c h_p1f1_l g17 rfl rfl rfl rfl rfl TWBS7.l26 TWBS7.n2 ?_
  refine TO.stIV h_p1f1_z h_p1f1_c h_p1f1_l g17 rfl rfl rfl rfl tk3 TWBS7.n2 ?_
  refine TO.done ?_
  refine X.seq_normal ?_
  refine T.trim (AllF.cons (t := 1) rfl (AllF.cons (t := 2) rfl (AllF.cons (t := 3) rfl (AllF.cons (t := 4) rfl AllF.nil)))) ?_
  obtain ⟨g18, H⟩ := gd_some H
  obtain ⟨g19, H⟩ := gd_some H
  obtain ⟨g20, H⟩ := gd_some H
  obtain ⟨g21, H⟩ := gd_some H
  refine T.drawS 12 [0, 1, 2, 3, 4, 5, 6, 7, 8, 9, 10, 11] rfl mixed (by kernel_rfl) (by kernel_rfl) rfl (by kernel_rfl) ?_
  refine TQ.move rfl rfl rfl rfl ?_
  refine TQ.nilCheck rfl rfl rfl rfl ?_
  refine TQ.fieldAddr0 rfl rfl rfl rfl TWBS7.f29_1 ?_
  refine TQ.load1 rfl rfl rfl rfl TWBS7.s26 mm3 rfl ?_
  refine TQ.fieldAddr0 rfl rfl rfl rfl TWBS7.f32_4 ?_
  refine TQ.load1 rfl rfl rfl rfl TWBS7.s27 mm2 rfl ?_
  refine TQ.move rfl rfl rfl rfl ?_
  refine TQ.ixR h_c0f4 g18 rfl rfl rfl rfl rfl TWBS7.l27 TWBS7.n3 ?_
  refine TQ.ldIR h_c0f4 g18 rfl rfl rfl rfl TWBS7.s3 ?_
  refine TQ.ixV h_p1f1_z h_p1f1_c (List.length_set.trans h_p1f1_l) g19 rfl rfl rfl rfl rfl TWBS7.l26 TWBS7.n2 ?_
  refine TQ.ldIV h_p1f1_z h_p1f1_c (List.length_set.trans h_p1f1_l) g19 rfl rfl rfl rfl TWBS7.s2 mm0 ?_
  refine TQ.move rfl rfl rfl rfl ?_
  refine TQ.tail [12, 13, 14] rfl rfl ?_
  refine TO.addG g20 rfl rfl rfl rfl rfl ?_
  refine TO.ixV h_p1f1_z h_p1f1_c (List.length_set.trans h_p1f1_l) g21 rfl rfl rfl rfl rfl TWBS7.l26 TWBS7.n2 ?_
  refine TO.stIV h_p1f1_z h_p1f1_c (List.length_set.trans h_p1f1_l) g21 rfl rfl rfl rfl tk0 TWBS7.n2 ?_
  refine TO.done ?_
  refine X.fall ?_
  obtain rfl := ret1 H
  exact X.ret0 rfl rfl rfl rfl  (Pick.cons tk3 (Pick.cons tk1 (Pick.cons tk0 Pick.nil))) ⟨rfl, rfl, (List.length_set.trans (List.length_set.trans h_p1f0_l)), (List.length_set.trans (List.length_set.trans h_p1f1_l))⟩
/-- acequia/pre.Begin -/
theorem w_pre_Begin {c0 : Csr} {c0f3_b : Option Addr} {c0f3_n : Nat} {c0f3_c : Nat} {c0f4_b : Option Addr} {c0f4_n : Nat} {c0f4_c : Nat} {c0f5_b : Option Addr} {c0f5_n : Nat} {c0f5_c : Nat} {c0f6_b : Option Addr} {c0f6_n : Nat} {c0f6_c : Nat} {c0f7_b : Option Addr} {c0f7_n : Nat} {c0f7_c : Nat} {c0f8_b : Option Addr} {c0f8_n : Nat} {c0f8_c : Nat} (w : World) (h_c0f3 : RS w [] (intC .i64) 1 c0f3_b c0f3_n c0f3_c c0.First) (h_c0f4 : RS w [] (intC .i64) 1 c0f4_b c0f4_n c0f4_c c0.Head) (h_c0f5 : RS w [] (intC .i64) 1 c0f5_b c0f5_n c0f5_c c0.Rev) (h_c0f6 : RS w [] (intC .i64) 1 c0f6_b c0f6_n c0f6_c c0.Cap) (h_c0f7 : RS w [] (intC .i64) 1 c0f7_b c0f7_n c0f7_c c0.Arc) (h_c0f8 : RS w [] boolC 1 c0f8_b c0f8_n c0f8_c c0.Back) {r0 : Pre} (H : m_pre_Begin c0 = some r0) : Fnc Try.prog 17 #[.agg #[.int .i64 c0.N, .int .i64 c0.S, .int .i64 c0.T, .slice c0f3_b c0f3_n c0f3_c, .slice c0f4_b c0f4_n c0f4_c, .slice c0f5_b c0f5_n c0f5_c, .slice c0f6_b c0f6_n c0f6_c, .slice c0f7_b c0f7_n c0f7_c, .slice c0f8_b c0f8_n c0f8_c]] w [] (fun v N => ∃ (ob_0 : Option Nat) (n_0 : Nat) (c_0 : Nat) (j_0 : List Value) (ob_4 : Option Nat) (n_4 : Nat) (c_4 : Nat) (j_4 : List Value) (ob_8 : Option Nat) (n_8 : Nat) (c_8 : Nat) (j_8 : List Value), v = .agg #[.slice (sb ob_0) n_0 c_0, .slice (sb ob_4) n_4 c_4, .slice (sb ob_8) n_8 c_8] ∧ N = [(ob_0, .cells (arr (intC .i64) r0.Res j_0).toArray 2 (0, 0)), (ob_4, .cells (arr (intC .i64) r0.Ex j_4).toArray 2 (0, 0)), (ob_8, .cells (arr (intC .i64) r0.H j_8).toArray 3 (0, 0))] ∧ r0.Res.length = n_0 ∧ n_0 ≤ c_0 ∧ j_0.length = (c_0 - n_0) * 1 ∧ (ob_0 = none → c_0 = 0) ∧ r0.Ex.length = n_4 ∧ n_4 ≤ c_4 ∧ j_4.length = (c_4 - n_4) * 1 ∧ (ob_4 = none → c_4 = 0) ∧ r0.H.length = n_8 ∧ n_8 ≤ c_8 ∧ j_8.length = (c_8 - n_8) * 1 ∧ (ob_8 = none → c_8 = 0)) := by
  unfold m_pre_Begin at H
  refine Fnc.enterM (vs := [.agg #[.int .i64 c0.N, .int .i64 c0.S, .int .i64 c0.T, .slice c0f3_b c0f3_n c0f3_c, .slice c0f4_b c0f4_n c0f4_c, .slice c0f5_b c0f5_n c0f5_c, .slice c0f6_b c0f6_n c0f6_c, .slice c0f7_b c0f7_n c0f7_c, .slice c0f8_b c0f8_n c0f8_c]]) Try.func17 rfl rfl (Inv.refl w) ?_
  refine T.seq ?_
  refine T.regionL (ll := [0, 1]) rfl ?_
  refine TO.boxA rfl rfl rfl rfl ?_; intro b1
  refine TO.allocA rfl rfl rfl TWBS7.z29 ?_; intro b3
  refine TO.done ?_
  refine X.seq_normal ?_
  refine T.seq ?_
  obtain ⟨r5, e6, H⟩ := bd_some H
  obtain ⟨g16, H⟩ := gd_some H
  obtain ⟨g19, H⟩ := gd_some H
  apply T.drawL [⟨[], false, [], relV _⟩, ⟨[0], false, [], relV _⟩, ⟨[1], false, [], fun _ v e => ∃ (ob7 : Option Nat) (n8 : Nat) (c9 : Nat) (j10 : List Value), v = .slice (sb ob7) n8 c9 ∧ e = [(ob7, .cells (arr (intC .i64) r5 j10).toArray 2 (0, 0))] ∧ r5.length = n8 ∧ n8 ≤ c9 ∧ j10.length = (c9 - n8) * 1 ∧ (ob7 = none → c9 = 0)⟩, ⟨[], false, [], relV _⟩, ⟨[3], false, [], relV _⟩, ⟨[4], false, [], fun _ v e => ∃ (b17 : Nat), v = .slice (some ⟨b17, 0, none⟩) c0.N.toNat c0.N.toNat ∧ e = [(some b17, .cells (arr (intC .i64) (List.replicate c0.N.toNat (0 : Int)) ([])).toArray 2 (0, 0))]⟩, ⟨[], false, [], relV _⟩, ⟨[6], false, [], relV _⟩, ⟨[7], false, [], fun _ v e => ∃ (b20 : Nat), v = .slice (some ⟨b20, 0, none⟩) c0.N.toNat c0.N.toNat ∧ e = [(some b20, .cells (arr (intC .i64) (List.replicate c0.N.toNat (0 : Int)) ([])).toArray 3 (0, 0))]⟩, ⟨[2, 5, 8], false, [], fun vl v e => v = (Value.agg #[(vl.getD 0 undef), (vl.getD 1 undef), (vl.getD 2 undef)]) ∧ e = []⟩, ⟨[], false, [], fun _ v e => ∃ (b22 : Nat), v = .pointer (some ⟨b22, 0, none⟩) ∧ e = [(some b22, .cells #[.slice none 0 0, .slice none 0 0, .slice none 0 0] 29 (0, 0))]⟩] [5, 6, 7, 8, 9, 10, 11, 12, 13, 14, 3] 11 (HRk [[]]) [[]] [] [(some b3, .cells #[.slice none 0 0, .slice none 0 0, .slice none 0 0] 29 (0, 0)), (some b1, .cells #[.int .i64 c0.N, .int .i64 c0.S, .int .i64 c0.T, .slice c0f3_b c0f3_n c0f3_c, .slice c0f4_b c0f4_n c0f4_c, .slice c0f5_b c0f5_n c0f5_c, .slice c0f6_b c0f6_n c0f6_c, .slice c0f7_b c0f7_n c0f7_c, .slice c0f8_b c0f8_n c0f8_c] 32 (0, 0))]
  · exact mixed
  · exact rfl
  · kernel_rfl
  · kernel_rfl
  · kernel_rfl
  · exact rfl
  · exact rfl
  · exact rfl
  · exact rfl
  · exact (by repeat (first | exact Pick.refl _ | exact Pick.nil | apply Pick.none | refine Pick.cons (by repeat (first | exact Take.head _ _ | apply Take.tail)) ?_))
  · refine ⟨?_, ?_, ?_, ?_, ?_, ?_, ?_, ?_, ?_, ?_, ?_, trivial⟩
    · rintro vs es Es Hx -
      refine TO.reenv (D := []) rfl ?_
      refine TO.fieldAddr0 rfl rfl rfl rfl TWBS7.f32_6 ?_
      refine TO.done ?_; exact X.obQ rfl ⟨rfl, rfl⟩ (Pick.refl _) rfl
    · rintro vs es Es Hx ⟨⟨h_0, e_0⟩, -⟩
      refine TO.reenv (D := [(5, vs 0)]) rfl ?_; rw [h_0]
      refine TO.load1 rfl rfl rfl rfl TWBS7.s26 mm1 rfl ?_
      refine TO.done ?_; exact X.obQ rfl ⟨rfl, rfl⟩ (Pick.refl _) (by show [(5, vs 0)] = _; rw [h_0])
    · rintro vs es Es Hx ⟨⟨h_1, e_1⟩, -⟩
      refine TO.reenv (D := [(6, vs 1)]) rfl ?_; rw [h_1]
      refine TO.callX TWBS7.c58 rfl rfl rfl rfl (fun wc hwc => w_slices_Clone_int64 (s0 := c0.Cap) wc (h_c0f6.mono hwc) e6) ?_
      rintro _ _ ⟨ob7, n8, c9, j10, rfl, rfl, hn11, hc12, hj13, hz14⟩
      refine TO.done ?_; exact X.obQ rfl ⟨ob7, n8, c9, j10, rfl, rfl, hn11, hc12, hj13, hz14⟩ (by repeat (first | exact Pick.refl _ | exact Pick.nil | apply Pick.none | refine Pick.cons (by repeat (first | exact Take.head _ _ | apply Take.tail)) ?_)) (by show [(6, vs 1)] = _; rw [h_1])
    · rintro vs es Es Hx -
      refine TO.reenv (D := []) rfl ?_
      refine TO.fieldAddr0 rfl rfl rfl rfl TWBS7.f32_0 ?_
      refine TO.done ?_; exact X.obQ rfl ⟨rfl, rfl⟩ (Pick.refl _) rfl
    · rintro vs es Es Hx ⟨⟨h_3, e_3⟩, -⟩
      refine TO.reenv (D := [(8, vs 3)]) rfl ?_; rw [h_3]
      refine TO.load1 rfl rfl rfl rfl TWBS7.s3 mm1 rfl ?_
      refine TO.done ?_; exact X.obQ rfl ⟨rfl, rfl⟩ (Pick.refl _) (by show [(8, vs 3)] = _; rw [h_3])
    · rintro vs es Es Hx ⟨⟨h_4, e_4⟩, -⟩
      refine TO.reenv (D := [(9, vs 4)]) rfl ?_; rw [h_4]
      refine TO.mkI g16 rfl rfl rfl rfl rfl TWBS7.l26 TWBS7.n2 TWBS7.z2 TWBS7.b2 rfl ?_; intro b17
      refine TO.done ?_; exact X.obQ rfl ⟨b17, rfl, rfl⟩ (by repeat (first | exact Pick.refl _ | exact Pick.nil | apply Pick.none | refine Pick.cons (by repeat (first | exact Take.head _ _ | apply Take.tail)) ?_)) (by show [(9, vs 4)] = _; rw [h_4])
    · rintro vs es Es Hx -
      refine TO.reenv (D := []) rfl ?_
      refine TO.fieldAddr0 rfl rfl rfl rfl TWBS7.f32_0 ?_
      refine TO.done ?_; exact X.obQ rfl ⟨rfl, rfl⟩ (Pick.refl _) rfl
    · rintro vs es Es Hx ⟨⟨h_6, e_6⟩, -⟩
      refine TO.reenv (D := [(11, vs 6)]) rfl ?_; rw [h_6]
      refine TO.load1 rfl rfl rfl rfl TWBS7.s3 mm1 rfl ?_
      refine TO.done ?_; exact X.obQ rfl ⟨rfl, rfl⟩ (Pick.refl _) (by show [(11, vs 6)] = _; rw [h_6])
    · rintro vs es Es Hx ⟨⟨h_7, e_7⟩, -⟩
      refine TO.reenv (D := [(12, vs 7)]) rfl ?_; rw [h_7]
      refine TO.mkI g19 rfl rfl rfl rfl rfl TWBS7.l27 TWBS7.n3 TWBS7.z3 TWBS7.b3 rfl ?_; intro b20
      refine TO.done ?_; exact X.obQ rfl ⟨b20, rfl, rfl⟩ (by repeat (first | exact Pick.refl _ | exact Pick.nil | apply Pick.none | refine Pick.cons (by repeat (first | exact Take.head _ _ | apply Take.tail)) ?_)) (by show [(12, vs 7)] = _; rw [h_7])
    · rintro vs es Es Hx ⟨⟨ob7, n8, c9, j10, h_2, e_2, hn11, hc12, hj13, hz14⟩, ⟨b17, h_5, e_5⟩, ⟨b20, h_8, e_8⟩, -⟩
      refine TO.reenv (D := [(7, vs 2), (10, vs 5), (13, vs 8)]) rfl ?_; rw [h_2, h_5, h_8]
      refine TO.reheap (H := [(some b3, .cells #[.slice none 0 0, .slice none 0 0, .slice none 0 0] 29 (0, 0)), (some b1, .cells #[.int .i64 c0.N, .int .i64 c0.S, .int .i64 c0.T, .slice c0f3_b c0f3_n c0f3_c, .slice c0f4_b c0f4_n c0f4_c, .slice c0f5_b c0f5_n c0f5_c, .slice c0f6_b c0f6_n c0f6_c, .slice c0f7_b c0f7_n c0f7_c, .slice c0f8_b c0f8_n c0f8_c] 32 (0, 0))] ++ ([(ob7, .cells (arr (intC .i64) r5 j10).toArray 2 (0, 0)), (some b17, .cells (arr (intC .i64) (List.replicate c0.N.toNat (0 : Int)) ([])).toArray 2 (0, 0)), (some b20, .cells (arr (intC .i64) (List.replicate c0.N.toNat (0 : Int)) ([])).toArray 3 (0, 0))] ++ Hx)) (by show _ ++ ((es 2 ++ (es 5 ++ (es 8 ++ ([])))) ++ _) = _; rw [e_2, e_5, e_8]; rfl) ?_
      refine TO.buildS (t := 29) [.slice none 0 0, .slice none 0 0, .slice none 0 0] [0, 1, 2] rfl rfl rfl rfl (by simp only [setAll, setCells, Value.cells, List.toList_toArray, List.getD_cons_zero, List.getD_cons_succ, List.set_cons_zero, List.set_cons_succ]; rfl) (by kernel_rfl) ?_
      refine TO.done ?_; exact X.obQ rfl ⟨by show _ = (Value.agg #[vs 2, vs 5, vs 8]); rw [h_2, h_5, h_8] <;> rfl, rfl⟩ (by show Pick (_ ++ (_ ++ ((es 2 ++ (es 5 ++ (es 8 ++ ([])))) ++ _))) _; rw [e_2, e_5, e_8]; exact (by repeat (first | exact Pick.refl _ | exact Pick.nil | apply Pick.none | refine Pick.cons (by repeat (first | exact Take.head _ _ | apply Take.tail)) ?_))) (by show [(7, vs 2), (10, vs 5), (13, vs 8)] = _; rw [h_2, h_5, h_8])
    · rintro vs es Es Hx -
      refine TO.reenv (D := []) rfl ?_
      refine TO.allocA rfl rfl rfl TWBS7.z29 ?_; intro b22
      refine TO.done ?_; exact X.obQ rfl ⟨b22, rfl, rfl⟩ (by repeat (first | exact Pick.refl _ | exact Pick.nil | apply Pick.none | refine Pick.cons (by repeat (first | exact Take.head _ _ | apply Take.tail)) ?_)) rfl
  · rintro vs es hb ⟨⟨h_0, e_0⟩, ⟨h_1, e_1⟩, ⟨ob7, n8, c9, j10, h_2, e_2, hn11, hc12, hj13, hz14⟩, ⟨h_3, e_3⟩, ⟨h_4, e_4⟩, ⟨b17, h_5, e_5⟩, ⟨h_6, e_6⟩, ⟨h_7, e_7⟩, ⟨b20, h_8, e_8⟩, ⟨q_9, e_9⟩, ⟨b22, h_10, e_10⟩, -⟩ hHR
    obtain rfl : hb = [] := hHR
    have h_9 : vs 9 = .agg #[.slice (sb ob7) n8 c9, .slice (some ⟨b17, 0, none⟩) c0.N.toNat c0.N.toNat, .slice (some ⟨b20, 0, none⟩) c0.N.toNat c0.N.toNat] := by refine Eq.trans q_9 ?_; show (Value.agg #[vs 2, vs 5, vs 8]) = _; rw [h_2, h_5, h_8] <;> rfl
    refine TO.reenv (D := [(5, vs 0), (6, vs 1), (7, vs 2), (8, vs 3), (9, vs 4), (10, vs 5), (11, vs 6), (12, vs 7), (13, vs 8), (14, vs 9), (3, vs 10)]) rfl ?_
    refine TO.reheap (H := [(some b3, .cells #[.slice none 0 0, .slice none 0 0, .slice none 0 0] 29 (0, 0)), (some b1, .cells #[.int .i64 c0.N, .int .i64 c0.S, .int .i64 c0.T, .slice c0f3_b c0f3_n c0f3_c, .slice c0f4_b c0f4_n c0f4_c, .slice c0f5_b c0f5_n c0f5_c, .slice c0f6_b c0f6_n c0f6_c, .slice c0f7_b c0f7_n c0f7_c, .slice c0f8_b c0f8_n c0f8_c] 32 (0, 0)), (ob7, .cells (arr (intC .i64) r5 j10).toArray 2 (0, 0)), (some b17, .cells (arr (intC .i64) (List.replicate c0.N.toNat (0 : Int)) ([])).toArray 2 (0, 0)), (some b20, .cells (arr (intC .i64) (List.replicate c0.N.toNat (0 : Int)) ([])).toArray 3 (0, 0)), (some b22, .cells #[.slice none 0 0, .slice none 0 0, .slice none 0 0] 29 (0, 0))]) (by show _ ++ (_ ++ (es 0 ++ (es 1 ++ (es 2 ++ (es 3 ++ (es 4 ++ (es 5 ++ (es 6 ++ (es 7 ++ (es 8 ++ (es 9 ++ (es 10 ++ ([]))))))))))))) = _; rw [e_0, e_1, e_2, e_3, e_4, e_5, e_6, e_7, e_8, e_9, e_10]; rfl) ?_
    rw [h_0, h_1, h_2, h_3, h_4, h_5, h_6, h_7, h_8, h_9, h_10]
    clear h_10 h_9 h_8 h_7 h_6 h_5 h_4 h_3 h_2 h_1 h_0 q_9 e_0 e_1 e_2 e_3 e_4 e_5 e_6 e_7 e_8 e_9 e_10
    refine TO.storeA rfl rfl rfl rfl tk5 TWBS7.n29 rfl rfl rfl ?_
    refine TO.done ?_
    refine X.seq_normal ?_
    refine T.trim (AllF.cons (t := 1) rfl (AllF.cons (t := 2) rfl (AllF.cons (t := 3) rfl AllF.nil))) ?_
    refine T.seq ?_
    obtain ⟨g24, H⟩ := gd_some H
    refine T.regionL (ll := [0, 1, 2, 3, 4, 5, 6, 7]) rfl ?_
    refine TO.fieldAddr0 rfl rfl rfl rfl TWBS7.f29_2 ?_
    refine TO.load1 rfl rfl rfl rfl TWBS7.s27 mm0 rfl ?_
    refine TO.fieldAddr0 rfl rfl rfl rfl TWBS7.f32_1 ?_
    refine TO.load1 rfl rfl rfl rfl TWBS7.s3 mm2 rfl ?_
    refine TO.fieldAddr0 rfl rfl rfl rfl TWBS7.f32_0 ?_
    refine TO.load1 rfl rfl rfl rfl TWBS7.s3 mm2 rfl ?_
    refine TO.ix1 List.length_replicate g24 rfl rfl rfl rfl rfl TWBS7.l27 TWBS7.n3 ?_
    refine TO.stIO g24 rfl rfl rfl rfl tk5 TWBS7.n3 ?_
    refine TO.done ?_
    refine X.seq_normal ?_
    refine T.seq ?_
    refine T.seq ?_
    obtain ⟨⟨⟩, e25, H⟩ := bd_some H
    refine T.regionL (ll := [0, 1, 2, 3]) rfl ?_
    refine TO.loadA rfl rfl rfl rfl TWBS7.a32 mm3 rfl ?_
    refine TO.fieldAddr0 rfl rfl rfl rfl TWBS7.f32_1 ?_
    refine TO.load1 rfl rfl rfl rfl TWBS7.s3 mm3 rfl ?_
    refine TO.callX TWBS7.c59 rfl rfl rfl rfl (fun wc hwc => w_pre_arcs (c0 := c0) (u1 := c0.S) wc (h_c0f3.mono hwc) (h_c0f4.mono hwc) (h_c0f5.mono hwc) (h_c0f6.mono hwc) (h_c0f7.mono hwc) (h_c0f8.mono hwc) e25) ?_
    rintro _ _ ⟨b26, b27, rfl, rfl⟩
    refine TO.done ?_
    refine X.seq_normal ?_
    refine T.trim (AllF.cons (t := 1) rfl (AllF.cons (t := 2) rfl (AllF.cons (t := 3) rfl (AllF.cons (t := 25) rfl AllF.nil)))) ?_
    refine T.block ?_
    obtain ⟨t_1, e_1, K_1⟩ := bd_some H
    refine T.rangeFunc (S := (List Int × List Int)) (X := (Empty)) (V := Int) rfl TWBS7.c97 rfl rfl (fun v => [.int .i64 v]) (fun _ => rfl) (fun s v => m_pre_Begin_y1 c0 s.1 s.2 v) (fun t Hq => match t with | .inl (xs30, xs32) => Hq = [(some b22, .cells #[.slice (sb ob7) n8 c9, .slice (some ⟨b17, 0, none⟩) c0.N.toNat c0.N.toNat, .slice (some ⟨b20, 0, none⟩) c0.N.toNat c0.N.toNat] 29 (0, 0)), (ob7, .cells (arr (intC .i64) xs30 j10).toArray 2 (0, 0)), (some b17, .cells (arr (intC .i64) xs32 ([])).toArray 2 (0, 0))] ∧ xs30.length = n8 ∧ xs32.length = c0.N.toNat | .inr x => nomatch x) (fun x => nomatch x) (r5, (List.replicate c0.N.toNat (0 : Int))) t_1 [(some b22, .cells #[.slice (sb ob7) n8 c9, .slice (some ⟨b17, 0, none⟩) c0.N.toNat c0.N.toNat, .slice (some ⟨b20, 0, none⟩) c0.N.toNat c0.N.toNat] 29 (0, 0)), (ob7, .cells (arr (intC .i64) r5 j10).toArray 2 (0, 0)), (some b17, .cells (arr (intC .i64) (List.replicate c0.N.toNat (0 : Int)) ([])).toArray 2 (0, 0))] [(some b26, .cells #[.int .i64 c0.N, .int .i64 c0.S, .int .i64 c0.T, .slice c0f3_b c0f3_n c0f3_c, .slice c0f4_b c0f4_n c0f4_c, .slice c0f5_b c0f5_n c0f5_c, .slice c0f6_b c0f6_n c0f6_c, .slice c0f7_b c0f7_n c0f7_c, .slice c0f8_b c0f8_n c0f8_c] 32 (0, 0)), (some b27, .cells #[.int .i64 c0.S] 3 (0, 0)), (some b20, .cells (arr (intC .i64) ((List.replicate c0.N.toNat (0 : Int)).set c0.S.toNat c0.N) ([])).toArray 3 (0, 0)), (some b3, .cells #[.slice none 0 0, .slice none 0 0, .slice none 0 0] 29 (0, 0)), (some b1, .cells #[.int .i64 c0.N, .int .i64 c0.S, .int .i64 c0.T, .slice c0f3_b c0f3_n c0f3_c, .slice c0f4_b c0f4_n c0f4_c, .slice c0f5_b c0f5_n c0f5_c, .slice c0f6_b c0f6_n c0f6_c, .slice c0f7_b c0f7_n c0f7_c, .slice c0f8_b c0f8_n c0f8_c] 32 (0, 0))] ⟨rfl, hn11, List.length_replicate⟩ (Pick.cons tk3 (Pick.cons tk5 (Pick.cons tk5 (Pick.refl _)))) ?_ ?_ ?_ ?_
    · intro lp wc J_ H0_ hJ_ hin_ hY_ lo_ hwc hH0
      subst hH0
      exact w_pre_arcs_1 (yy_ := (fun s v => m_pre_Begin_y1 c0 s.1 s.2 v)) (c1 := c0) (c2 := c0.S) (tt_ := .inl (r5, (List.replicate c0.N.toNat (0 : Int)))) (J_ := J_) wc hin_ hJ_ hY_ (h_c0f3.monoM (by decide) hwc (List.Perm.refl _) rfl) (h_c0f4.monoM (by decide) hwc (List.Perm.refl _) rfl) (h_c0f5.monoM (by decide) hwc (List.Perm.refl _) rfl) (h_c0f6.monoM (by decide) hwc (List.Perm.refl _) rfl) (h_c0f7.monoM (by decide) hwc (List.Perm.refl _) rfl) (h_c0f8.monoM (by decide) hwc (List.Perm.refl _) rfl) (hwc.hbM (cs := [.int .i64 c0.N, .int .i64 c0.S, .int .i64 c0.T, .slice c0f3_b c0f3_n c0f3_c, .slice c0f4_b c0f4_n c0f4_c, .slice c0f5_b c0f5_n c0f5_c, .slice c0f6_b c0f6_n c0f6_c, .slice c0f7_b c0f7_n c0f7_c, .slice c0f8_b c0f8_n c0f8_c]) (List.Perm.refl _) rfl mm0) (hwc.hbM (cs := [.int .i64 c0.S]) (List.Perm.refl _) rfl mm1) e_1
    · rintro lp w_1 ⟨xs30, xs32⟩ y34 r_1 _ hy ⟨rfl, hn31, hn33⟩ hs_1 ho_1
      refine ⟨[(1, .pointer (some ⟨b1, 0, none⟩)), (2, .pointer (some ⟨b3, 0, none⟩)), (3, .pointer (some ⟨b22, 0, none⟩)), (26, .int .i64 y34), (4, .int .i64 y34)], [(some b22, .cells #[.slice (sb ob7) n8 c9, .slice (some ⟨b17, 0, none⟩) c0.N.toNat c0.N.toNat, .slice (some ⟨b20, 0, none⟩) c0.N.toNat c0.N.toNat] 29 (0, 0)), (ob7, .cells (arr (intC .i64) xs30 j10).toArray 2 (0, 0)), (some b17, .cells (arr (intC .i64) xs32 ([])).toArray 2 (0, 0))], ?_, ?_⟩
      ·
        refine T.regionL (ll := [0]) rfl ?_
        refine TO.assign rfl rfl rfl rfl ?_
        refine TO.done ?_
        exact X.asg (AllF.cons rfl (AllF.cons rfl (AllF.cons rfl (AllF.cons rfl (AllF.cons rfl AllF.nil))))) (Pick.refl _)
      · intro w_2 hs_2 hwc
        have h_c0f3 := h_c0f3.monoM (by decide) hwc (List.Perm.refl _) rfl
        have h_c0f4 := h_c0f4.monoM (by decide) hwc (List.Perm.refl _) rfl
        have h_c0f5 := h_c0f5.monoM (by decide) hwc (List.Perm.refl _) rfl
        have h_c0f6 := h_c0f6.monoM (by decide) hwc (List.Perm.refl _) rfl
        have h_c0f7 := h_c0f7.monoM (by decide) hwc (List.Perm.refl _) rfl
        have h_c0f8 := h_c0f8.monoM (by decide) hwc (List.Perm.refl _) rfl
        have hb_e2 := hwc.hbM (cs := [.int .i64 c0.N, .int .i64 c0.S, .int .i64 c0.T, .slice c0f3_b c0f3_n c0f3_c, .slice c0f4_b c0f4_n c0f4_c, .slice c0f5_b c0f5_n c0f5_c, .slice c0f6_b c0f6_n c0f6_c, .slice c0f7_b c0f7_n c0f7_c, .slice c0f8_b c0f8_n c0f8_c]) (List.Perm.refl _) rfl mm4
        have hr_e21 := hwc.rsM (f := (intC .i64)) (s := 1) (xs := ((List.replicate c0.N.toNat (0 : Int)).set c0.S.toNat c0.N)) (j := ([])) (fun _ => rfl) (List.Perm.refl _) rfl mm2 (List.length_set.trans List.length_replicate) (Nat.le_refl _) someZ
        have hb_e4 := hwc.hbM (cs := [.slice none 0 0, .slice none 0 0, .slice none 0 0]) (List.Perm.refl _) rfl mm3
        have H : m_pre_Begin_y1 c0 xs30 xs32 y34 = some r_1 := hy
        unfold m_pre_Begin_y1 at H
        refine T.block ?_
        obtain ⟨g35, H⟩ := gd_some H
        obtain ⟨r36, e37, H⟩ := bd_some H
        refine T.drawS 7 [0, 1, 2, 3, 4, 5, 6] rfl mixed (by kernel_rfl) (by kernel_rfl) rfl (by kernel_rfl) ?_
        refine TQ.ldHBA hb_e2 rfl rfl rfl rfl rfl TWBS7.a32 ?_
        refine TQ.move rfl rfl rfl rfl ?_
        refine TQ.fieldAddr0 rfl rfl rfl rfl TWBS7.f29_0 ?_
        refine TQ.load1 rfl rfl rfl rfl TWBS7.s26 mm0 rfl ?_
        refine TQ.move rfl rfl rfl rfl ?_
        refine TQ.ixV hz14 hc12 hn31 g35 rfl rfl rfl rfl rfl TWBS7.l26 TWBS7.n2 ?_
        refine TQ.ldIV hz14 hc12 hn31 g35 rfl rfl rfl rfl TWBS7.s2 mm1 ?_
        refine TQ.tail [7] rfl rfl ?_
        refine TO.callXM TWBS7.c60 rfl rfl rfl rfl (Take.gone tk0 (Take.gone tk0 (Take.gone tk0 (Gone.refl _)))) rfl (fun wc hwc => w_pre_move (c0 := c0) (p1 := (Pre.mk xs30 xs32 ((List.replicate c0.N.toNat (0 : Int)).set c0.S.toNat c0.N))) (a2 := y34) (d3 := (xs30.getD y34.toNat 0)) wc (hwc.self (Pick.cons tk0 (Pick.cons tk0 (Pick.cons tk0 Pick.nil))) rfl) (h_c0f3.monoM (by decide) hwc (Take.gone tk0 (Take.gone tk0 (Take.gone tk0 (Gone.refl _)))) rfl) (h_c0f4.monoM (by decide) hwc (Take.gone tk0 (Take.gone tk0 (Take.gone tk0 (Gone.refl _)))) rfl) (h_c0f5.monoM (by decide) hwc (Take.gone tk0 (Take.gone tk0 (Take.gone tk0 (Gone.refl _)))) rfl) (h_c0f6.monoM (by decide) hwc (Take.gone tk0 (Take.gone tk0 (Take.gone tk0 (Gone.refl _)))) rfl) (h_c0f7.monoM (by decide) hwc (Take.gone tk0 (Take.gone tk0 (Take.gone tk0 (Gone.refl _)))) rfl) (h_c0f8.monoM (by decide) hwc (Take.gone tk0 (Take.gone tk0 (Take.gone tk0 (Gone.refl _)))) rfl) hn31 hc12 hj13 hz14 hn33 (Nat.le_refl _) (zeroJ _ _) someZ (hr_e21.monoM (by decide) hwc (Take.gone tk0 (Take.gone tk0 (Take.gone tk0 (Gone.refl _)))) rfl) e37) ?_
        rintro _ _ ⟨rfl, rfl, hn38, hn39⟩
        refine TO.done ?_
        refine X.block_normal ?_
        exact X.rfNext H ⟨rfl, hn38, hn39⟩ (Pick.cons tk0 (Pick.cons tk0 (Pick.cons tk0 Pick.nil)))
    ·
      rintro ⟨xs30, xs32⟩ ht rr_1 _ ⟨rfl, hn31, hn33⟩
      subst ht
      have H : (some (Pre.mk xs30 xs32 ((List.replicate c0.N.toNat (0 : Int)).set c0.S.toNat c0.N))) = some r0 := K_1
      refine X.reheap (H := [(some b22, .cells #[.slice (sb ob7) n8 c9, .slice (some ⟨b17, 0, none⟩) c0.N.toNat c0.N.toNat, .slice (some ⟨b20, 0, none⟩) c0.N.toNat c0.N.toNat] 29 (0, 0)), (ob7, .cells (arr (intC .i64) xs30 j10).toArray 2 (0, 0)), (some b17, .cells (arr (intC .i64) xs32 ([])).toArray 2 (0, 0)), (some rr_1, mkO), (some b26, .cells #[.int .i64 c0.N, .int .i64 c0.S, .int .i64 c0.T, .slice c0f3_b c0f3_n c0f3_c, .slice c0f4_b c0f4_n c0f4_c, .slice c0f5_b c0f5_n c0f5_c, .slice c0f6_b c0f6_n c0f6_c, .slice c0f7_b c0f7_n c0f7_c, .slice c0f8_b c0f8_n c0f8_c] 32 (0, 0)), (some b27, .cells #[.int .i64 c0.S] 3 (0, 0)), (some b20, .cells (arr (intC .i64) ((List.replicate c0.N.toNat (0 : Int)).set c0.S.toNat c0.N) ([])).toArray 3 (0, 0)), (some b3, .cells #[.slice none 0 0, .slice none 0 0, .slice none 0 0] 29 (0, 0)), (some b1, .cells #[.int .i64 c0.N, .int .i64 c0.S, .int .i64 c0.T, .slice c0f3_b c0f3_n c0f3_c, .slice c0f4_b c0f4_n c0f4_c, .slice c0f5_b c0f5_n c0f5_c, .slice c0f6_b c0f6_n c0f6_c, .slice c0f7_b c0f7_n c0f7_c, .slice c0f8_b c0f8_n c0f8_c] 32 (0, 0))]) rfl ?_
      refine X.block_normal ?_
      refine X.seq_normal ?_
      refine T.seq ?_
      refine T.regionL (ll := [0, 1]) rfl ?_
      refine TO.loadA rfl rfl rfl rfl TWBS7.a29 mm0 rfl ?_
      refine TO.storeA rfl rfl rfl rfl tk7 TWBS7.n29 rfl rfl rfl ?_
      refine TO.done ?_
      refine X.seq_normal ?_
      refine T.ret ?_
      obtain rfl := ret1 H
      exact X.retM1 [rr_1] rfl rfl rfl rfl rfl (Pick.cons tk4 (Pick.refl _)) (Res.cellA rfl TWBS7.a29 mm0 rfl) (Pick.cons tk2 (Pick.cons tk2 (Pick.cons tk4 Pick.nil))) ⟨ob7, n8, c9, j10, (some b17), c0.N.toNat, c0.N.toNat, ([]), (some b20), c0.N.toNat, c0.N.toNat, ([]), rfl, rfl, hn31, hc12, hj13, hz14, hn33, (Nat.le_refl _), (zeroJ _ _), someZ, (List.length_set.trans List.length_replicate), (Nat.le_refl _), (zeroJ _ _), someZ⟩
    ·
      intro x; exact nomatch x
/-- acequia/pre.brought -/
theorem w_pre_brought {c0 : Csr} {res1 : List Int} {c0f3_b : Option Addr} {c0f3_n : Nat} {c0f3_c : Nat} {c0f4_b : Option Addr} {c0f4_n : Nat} {c0f4_c : Nat} {c0f5_b : Option Addr} {c0f5_n : Nat} {c0f5_c : Nat} {c0f6_b : Option Addr} {c0f6_n : Nat} {c0f6_c : Nat} {c0f7_b : Option Addr} {c0f7_n : Nat} {c0f7_c : Nat} {c0f8_b : Option Addr} {c0f8_n : Nat} {c0f8_c : Nat} {res1_b : Option Addr} {res1_n : Nat} {res1_c : Nat} (w : World) (h_c0f3 : RS w [] (intC .i64) 1 c0f3_b c0f3_n c0f3_c c0.First) (h_c0f4 : RS w [] (intC .i64) 1 c0f4_b c0f4_n c0f4_c c0.Head) (h_c0f5 : RS w [] (intC .i64) 1 c0f5_b c0f5_n c0f5_c c0.Rev) (h_c0f6 : RS w [] (intC .i64) 1 c0f6_b c0f6_n c0f6_c c0.Cap) (h_c0f7 : RS w [] (intC .i64) 1 c0f7_b c0f7_n c0f7_c c0.Arc) (h_c0f8 : RS w [] boolC 1 c0f8_b c0f8_n c0f8_c c0.Back) (h_res1 : RS w [] (intC .i64) 1 res1_b res1_n res1_c res1) {r0 : List Int} {r1 : Bool} (H : m_pre_brought c0 res1 = some (r0, r1)) : Fnc Try.prog 62 #[.agg #[.int .i64 c0.N, .int .i64 c0.S, .int .i64 c0.T, .slice c0f3_b c0f3_n c0f3_c, .slice c0f4_b c0f4_n c0f4_c, .slice c0f5_b c0f5_n c0f5_c, .slice c0f6_b c0f6_n c0f6_c, .slice c0f7_b c0f7_n c0f7_c, .slice c0f8_b c0f8_n c0f8_c], .slice res1_b res1_n res1_c] w [] (fun v N => ∃ (ob_0 : Option Nat) (n_0 : Nat) (c_0 : Nat) (j_0 : List Value), v = .tuple #[.slice (sb ob_0) n_0 c_0, .bool r1] ∧ N = [(ob_0, .cells (arr (intC .i64) r0 j_0).toArray 2 (0, 0))] ∧ r0.length = n_0 ∧ n_0 ≤ c_0 ∧ j_0.length = (c_0 - n_0) * 1 ∧ (ob_0 = none → c_0 = 0)) := by
  unfold m_pre_brought at H
  refine Fnc.enter (vs := [.agg #[.int .i64 c0.N, .int .i64 c0.S, .int .i64 c0.T, .slice c0f3_b c0f3_n c0f3_c, .slice c0f4_b c0f4_n c0f4_c, .slice c0f5_b c0f5_n c0f5_c, .slice c0f6_b c0f6_n c0f6_c, .slice c0f7_b c0f7_n c0f7_c, .slice c0f8_b c0f8_n c0f8_c], .slice res1_b res1_n res1_c]) Try.func62 rfl rfl (Inv.refl w) ?_
  refine T.seq ?_
  refine T.regionL (ll := [0, 1, 2]) rfl ?_
  refine TO.boxA rfl rfl rfl rfl ?_; intro b1
  refine TO.assign rfl rfl rfl rfl ?_
  refine TO.assign rfl rfl rfl rfl ?_
  refine TO.done ?_
  refine X.seq_normal ?_
  refine T.seq ?_
  refine T.regionL (ll := [0]) rfl ?_
  refine TO.assign rfl rfl rfl rfl ?_
  refine TO.done ?_
  refine X.seq_normal ?_
  refine T.seq ?_
  refine T.seq ?_
  refine T.regionL (ll := [0, 1, 2, 3]) rfl ?_
  refine TO.fieldAddr0 rfl rfl rfl rfl TWBS7.f32_7 ?_
  refine TO.load1 rfl rfl rfl rfl TWBS7.s27 mm0 rfl ?_
  refine TO.lenX (xs := c0.Arc) h_c0f7.len rfl rfl rfl rfl rfl TWBS7.l27 ?_
  refine TO.move rfl rfl rfl rfl ?_
  refine TO.done ?_
  refine X.seq_normal ?_
  refine T.meetSE1 (fun (most9 : Int) => m_pre_brought_j2 c0 res1 most9 = some (r0, r1)) (fun (most9 : Int) => [(1, .slice res1_b res1_n res1_c), (2, .pointer (some ⟨b1, 0, none⟩)), (6, .int .i64 most9)]) (fun (most9 : Int) => [(some b1, .cells #[.int .i64 c0.N, .int .i64 c0.S, .int .i64 c0.T, .slice c0f3_b c0f3_n c0f3_c, .slice c0f4_b c0f4_n c0f4_c, .slice c0f5_b c0f5_n c0f5_c, .slice c0f6_b c0f6_n c0f6_c, .slice c0f7_b c0f7_n c0f7_c, .slice c0f8_b c0f8_n c0f8_c] 32 (0, 0))]) ?_ ?_
  ·
    refine T.block ?_
    obtain ⟨o_1, e_1, K_1⟩ := bd_some H
    refine T.loopE3 (fun (m_1 : Nat) (most3 : Int) (x4 : Int) => loopM (fun s => m_pre_brought_s1 c0 s.1 s.2) m_1 (most3, x4) = some o_1) (fun (m_1 : Nat) (most3 : Int) (x4 : Int) => [(1, .slice res1_b res1_n res1_c), (2, .pointer (some ⟨b1, 0, none⟩)), (6, .int .i64 most3), (15, .slice c0f7_b c0f7_n c0f7_c), (16, .int .i64 (c0.Arc.length : Int)), (17, .int .i64 x4)]) (fun (m_1 : Nat) (most3 : Int) (x4 : Int) => [(some b1, .cells #[.int .i64 c0.N, .int .i64 c0.S, .int .i64 c0.T, .slice c0f3_b c0f3_n c0f3_c, .slice c0f4_b c0f4_n c0f4_c, .slice c0f5_b c0f5_n c0f5_c, .slice c0f6_b c0f6_n c0f6_c, .slice c0f7_b c0f7_n c0f7_c, .slice c0f8_b c0f8_n c0f8_c] 32 (0, 0))]) (fun (m_1 : Nat) (most3 : Int) (x4 : Int) => m_1) FUEL 0 0 e_1 (AllF.cons rfl (AllF.cons rfl (AllF.cons rfl (AllF.cons rfl (AllF.cons rfl (AllF.cons rfl AllF.nil)))))) (Pick.cons tk0 Pick.nil) ?_
    rintro m_1 most3 x4 H
    obtain ⟨n_1, r_1, rfl, H, C_1⟩ := loopM_some H
    have H : m_pre_brought_s1 c0 most3 x4 = some r_1 := H
    unfold m_pre_brought_s1 at H
    refine T.seq ?_
    refine T.regionL (ll := [0]) rfl ?_
    refine TO.bin rfl rfl rfl rfl rfl rfl ?_
    refine TO.done ?_
    refine X.seq_normal ?_
    refine T.seq ?_
    rcases ite_some H with ⟨g5, H⟩ | ⟨g5, H⟩
    ·
      refine T.condPT rfl g5 ?_
      refine T.skip ?_
      refine X.seq_normal ?_
      refine T.seq ?_
      refine T.block ?_
      refine T.seq ?_
      obtain ⟨g6, H⟩ := gd_some H
      refine T.regionL (ll := [0, 1, 2]) rfl ?_
      refine TO.ixR h_c0f7 g6 rfl rfl rfl rfl rfl TWBS7.l27 TWBS7.n3 ?_
      refine TO.ldIR h_c0f7 g6 rfl rfl rfl rfl TWBS7.s3 ?_
      refine TO.assign rfl rfl rfl rfl ?_
      refine TO.done ?_
      refine X.seq_normal ?_
      obtain ⟨g7, H⟩ := gd_some H
      refine T.regionL (ll := [0, 1, 2, 3, 4]) rfl ?_
      refine TO.move rfl rfl rfl rfl ?_
      refine TO.move rfl rfl rfl rfl ?_
      refine TO.addG g7 rfl rfl rfl rfl rfl ?_
      refine TO.max2 rfl rfl rfl rfl rfl ?_
      refine TO.assign rfl rfl rfl rfl ?_
      refine TO.done ?_
      refine X.block_normal ?_
      refine X.seq_normal ?_
      refine T.trim (AllF.cons (t := 1) rfl (AllF.cons (t := 2) rfl (AllF.cons (t := 6) rfl (AllF.cons (t := 15) rfl (AllF.cons (t := 16) rfl (AllF.cons (t := 17) rfl AllF.nil)))))) ?_
      obtain ⟨g8, H⟩ := gd_some H
      refine T.regionL (ll := [0, 1]) rfl ?_
      refine TO.addG g8 rfl rfl rfl rfl rfl ?_
      refine TO.move rfl rfl rfl rfl ?_
      refine TO.done ?_
      have H := loop_next H C_1
      exact X.againE3 n_1 (max most3 ((c0.Arc.getD x4.toNat 0) + 1)) (x4 + 1) H (Nat.lt_succ_self _) (AllF.cons rfl (AllF.cons rfl (AllF.cons rfl (AllF.cons rfl (AllF.cons rfl (AllF.cons rfl AllF.nil)))))) (Pick.cons tk0 Pick.nil)
    ·
      refine T.condPF rfl g5 ?_
      refine T.exit ?_
      refine X.then_exit ?_
      have H := loop_exitE H C_1 ▸ K_1
      refine X.then_exit ?_
      refine X.block_here ?_
      exact X.metE1 most3 H (AllF.cons rfl (AllF.cons rfl (AllF.cons rfl AllF.nil))) (Pick.cons tk0 Pick.nil)
  · rintro most9 H
    unfold m_pre_brought_j2 at H
    refine T.seq ?_
    obtain ⟨⟨r10, r11⟩, e12, H⟩ := bd_some H
    refine T.regionL (ll := [0, 1, 2, 3, 4, 5, 6, 7, 8]) rfl ?_
    refine TO.loadA rfl rfl rfl rfl TWBS7.a32 mm0 rfl ?_
    refine TO.move rfl rfl rfl rfl ?_
    refine TO.move rfl rfl rfl rfl ?_
    refine TO.callX TWBS7.c54 rfl rfl rfl rfl (fun wc hwc => w_csr_Flow (c0 := c0) (res1 := res1) (arcs2 := most9) wc (h_c0f3.mono hwc) (h_c0f4.mono hwc) (h_c0f5.mono hwc) (h_c0f6.mono hwc) (h_c0f7.mono hwc) (h_c0f8.mono hwc) (h_res1.mono hwc) e12) ?_
    rintro _ _ ⟨ob13, n14, c15, j16, rfl, rfl, hn17, hc18, hj19, hz20⟩
    refine TO.move rfl rfl rfl rfl ?_
    refine TO.extract rfl rfl rfl rfl rfl ?_
    refine TO.extract rfl rfl rfl rfl rfl ?_
    refine TO.assign rfl rfl rfl rfl ?_
    refine TO.assign rfl rfl rfl rfl ?_
    refine TO.done ?_
    refine X.seq_normal ?_
    refine T.trim (AllF.cons (t := 2) rfl (AllF.cons (t := 9) rfl (AllF.cons (t := 10) rfl AllF.nil))) ?_
    refine T.seq ?_
    refine T.seq ?_
    refine T.regionL (ll := [0, 1]) rfl ?_
    refine TO.move rfl rfl rfl rfl ?_
    refine TO.bin rfl rfl rfl rfl rfl rfl ?_
    refine TO.done ?_
    refine X.seq_normal ?_
    rcases ite_some H with ⟨g22, H⟩ | ⟨g22, H⟩
    ·
      refine T.condPT rfl g22 ?_
      refine T.seq ?_
      refine T.regionL (ll := [0, 1]) rfl ?_
      refine TO.assign rfl rfl rfl rfl ?_
      refine TO.assign rfl rfl rfl rfl ?_
      refine TO.done ?_
      refine X.seq_normal ?_
      refine T.ret ?_
      refine X.then_ret ?_
      obtain ⟨rfl, rfl⟩ := ret2 H
      exact X.ret2 rfl rfl rfl rfl (Res.tmp rfl) (Res.tmp rfl) (Pick.none Pick.nil) ⟨none, 0, 0, ([]), rfl, rfl, rfl, (Nat.le_refl _), (zeroJ 0 _), (fun _ => rfl)⟩
    ·
      refine T.condPF rfl g22 ?_
      refine T.skip ?_
      refine X.seq_normal ?_
      refine T.seq ?_
      obtain ⟨g23, H⟩ := gd_some H
      refine T.regionL (ll := [0, 1, 2, 3]) rfl ?_
      refine TO.fieldAddr0 rfl rfl rfl rfl TWBS7.f32_0 ?_
      refine TO.load1 rfl rfl rfl rfl TWBS7.s3 mm1 rfl ?_
      refine TO.mkI g23 rfl rfl rfl rfl rfl TWBS7.l26 TWBS7.n2 TWBS7.z2 TWBS7.b2 rfl ?_; intro b24
      refine TO.assign rfl rfl rfl rfl ?_
      refine TO.done ?_
      refine X.seq_normal ?_
      refine T.seq ?_
      refine T.seq ?_
      refine T.regionL (ll := [0, 1, 2, 3]) rfl ?_
      refine TO.fieldAddr0 rfl rfl rfl rfl TWBS7.f32_8 ?_
      refine TO.load1 rfl rfl rfl rfl TWBS7.s30 mm2 rfl ?_
      refine TO.lenX (xs := c0.Back) h_c0f8.len rfl rfl rfl rfl rfl TWBS7.l30 ?_
      refine TO.move rfl rfl rfl rfl ?_
      refine TO.done ?_
      refine X.seq_normal ?_
      refine T.meetSE1 (fun (xs47 : List Int) => m_pre_brought_j4 xs47 = some (r0, r1) ∧ xs47.length = c0.N.toNat) (fun (xs47 : List Int) => [(11, .slice (some ⟨b24, 0, none⟩) c0.N.toNat c0.N.toNat)]) (fun (xs47 : List Int) => [(some b24, .cells (arr (intC .i64) xs47 ([])).toArray 2 (0, 0))]) ?_ ?_
      ·
        refine T.block ?_
        obtain ⟨o_3, e_3, K_3⟩ := bd_some H
        refine T.loopE3 (fun (m_3 : Nat) (xs26 : List Int) (x28 : Int) => loopM (fun s => m_pre_brought_s3 c0 r10 s.1 s.2) m_3 (xs26, x28) = some o_3 ∧ xs26.length = c0.N.toNat) (fun (m_3 : Nat) (xs26 : List Int) (x28 : Int) => [(2, .pointer (some ⟨b1, 0, none⟩)), (9, .slice (sb ob13) n14 c15), (11, .slice (some ⟨b24, 0, none⟩) c0.N.toNat c0.N.toNat), (39, .slice c0f8_b c0f8_n c0f8_c), (40, .int .i64 (c0.Back.length : Int)), (41, .int .i64 x28)]) (fun (m_3 : Nat) (xs26 : List Int) (x28 : Int) => [(some b1, .cells #[.int .i64 c0.N, .int .i64 c0.S, .int .i64 c0.T, .slice c0f3_b c0f3_n c0f3_c, .slice c0f4_b c0f4_n c0f4_c, .slice c0f5_b c0f5_n c0f5_c, .slice c0f6_b c0f6_n c0f6_c, .slice c0f7_b c0f7_n c0f7_c, .slice c0f8_b c0f8_n c0f8_c] 32 (0, 0)), (ob13, .cells (arr (intC .i64) r10 j16).toArray 2 (0, 0)), (some b24, .cells (arr (intC .i64) xs26 ([])).toArray 2 (0, 0))]) (fun (m_3 : Nat) (xs26 : List Int) (x28 : Int) => m_3) FUEL (List.replicate c0.N.toNat (0 : Int)) 0 ⟨e_3, List.length_replicate⟩ (AllF.cons rfl (AllF.cons rfl (AllF.cons rfl (AllF.cons rfl (AllF.cons rfl (AllF.cons rfl AllF.nil)))))) (Pick.cons tk2 (Pick.cons tk1 (Pick.cons tk0 Pick.nil))) ?_
        rintro m_3 xs26 x28 ⟨H, hn27⟩
        obtain ⟨n_3, r_3, rfl, H, C_3⟩ := loopM_some H
        have H : m_pre_brought_s3 c0 r10 xs26 x28 = some r_3 := H
        unfold m_pre_brought_s3 at H
        refine T.seq ?_
        refine T.regionL (ll := [0]) rfl ?_
        refine TO.bin rfl rfl rfl rfl rfl rfl ?_
        refine TO.done ?_
        refine X.seq_normal ?_
        refine T.seq ?_
        rcases ite_some H with ⟨g29, H⟩ | ⟨g29, H⟩
        ·
          refine T.condPT rfl g29 ?_
          refine T.skip ?_
          refine X.seq_normal ?_
          refine T.seq ?_
          refine T.block ?_
          refine T.seq ?_
          obtain ⟨g30, H⟩ := gd_some H
          refine T.regionL (ll := [0, 1, 2, 3, 4]) rfl ?_
          refine TO.move rfl rfl rfl rfl ?_
          refine TO.ixR h_c0f8 g30 rfl rfl rfl rfl rfl TWBS7.l30 TWBS7.n4 ?_
          refine TO.ldBR h_c0f8 g30 rfl rfl rfl rfl TWBS7.s4 ?_
          refine TO.assign rfl rfl rfl rfl ?_
          refine TO.assign rfl rfl rfl rfl ?_
          refine TO.done ?_
          refine X.seq_normal ?_
          refine T.seq ?_
          refine T.regionL (ll := [0, 1]) rfl ?_
          refine TO.move rfl rfl rfl rfl ?_
          refine TO.not rfl rfl rfl rfl ?_
          refine TO.done ?_
          refine X.seq_normal ?_
          rcases ite_some H with ⟨g31, H⟩ | ⟨g31, H⟩
          ·
            refine T.condT rfl g31 ?_
            refine T.seq ?_
            obtain ⟨g32, H⟩ := gd_some H
            obtain ⟨g33, H⟩ := gd_some H
            obtain ⟨g34, H⟩ := gd_some H
            obtain ⟨g35, H⟩ := gd_some H
            obtain ⟨g36, H⟩ := gd_some H
            obtain ⟨g37, H⟩ := gd_some H
            refine T.drawS 16 [0, 1, 2, 3, 4, 5, 6, 7, 8, 9, 10, 11, 12, 13, 14, 15] rfl mixed (by kernel_rfl) (by kernel_rfl) rfl (by kernel_rfl) ?_
            refine TQ.move rfl rfl rfl rfl ?_
            refine TQ.fieldAddr0 rfl rfl rfl rfl TWBS7.f32_4 ?_
            refine TQ.load1 rfl rfl rfl rfl TWBS7.s27 mm0 rfl ?_
            refine TQ.move rfl rfl rfl rfl ?_
            refine TQ.ixR h_c0f4 g32 rfl rfl rfl rfl rfl TWBS7.l27 TWBS7.n3 ?_
            refine TQ.ldIR h_c0f4 g32 rfl rfl rfl rfl TWBS7.s3 ?_
            refine TQ.ix1 hn27 g33 rfl rfl rfl rfl rfl TWBS7.l26 TWBS7.n2 ?_
            refine TQ.ldIO g33 rfl rfl rfl rfl TWBS7.s2 mm2 ?_
            refine TQ.move rfl rfl rfl rfl ?_
            refine TQ.fieldAddr0 rfl rfl rfl rfl TWBS7.f32_7 ?_
            refine TQ.load1 rfl rfl rfl rfl TWBS7.s27 mm0 rfl ?_
            refine TQ.move rfl rfl rfl rfl ?_
            refine TQ.ixR h_c0f7 g34 rfl rfl rfl rfl rfl TWBS7.l27 TWBS7.n3 ?_
            refine TQ.ldIR h_c0f7 g34 rfl rfl rfl rfl TWBS7.s3 ?_
            refine TQ.ixV hz20 hc18 hn17 g35 rfl rfl rfl rfl rfl TWBS7.l26 TWBS7.n2 ?_
            refine TQ.ldIV hz20 hc18 hn17 g35 rfl rfl rfl rfl TWBS7.s2 mm1 ?_
            refine TQ.tail [16, 17, 18] rfl rfl ?_
            refine TO.addG g36 rfl rfl rfl rfl rfl ?_
            refine TO.ix1 hn27 g37 rfl rfl rfl rfl rfl TWBS7.l26 TWBS7.n2 ?_
            refine TO.stIO g37 rfl rfl rfl rfl tk2 TWBS7.n2 ?_
            refine TO.done ?_
            refine X.seq_normal ?_
            refine T.trim (AllF.cons (t := 2) rfl (AllF.cons (t := 9) rfl (AllF.cons (t := 11) rfl (AllF.cons (t := 39) rfl (AllF.cons (t := 40) rfl (AllF.cons (t := 41) rfl (AllF.cons (t := 12) rfl AllF.nil))))))) ?_
            obtain ⟨g38, H⟩ := gd_some H
            obtain ⟨g39, H⟩ := gd_some H
            obtain ⟨g40, H⟩ := gd_some H
            obtain ⟨g41, H⟩ := gd_some H
            obtain ⟨g42, H⟩ := gd_some H
            obtain ⟨g43, H⟩ := gd_some H
            obtain ⟨g44, H⟩ := gd_some H
            refine T.drawS 20 [0, 1, 2, 3, 4, 5, 6, 7, 8, 9, 10, 11, 12, 13, 14, 15, 16, 17, 18, 19] rfl mixed (by kernel_rfl) (by kernel_rfl) rfl (by kernel_rfl) ?_
            refine TQ.move rfl rfl rfl rfl ?_
            refine TQ.fieldAddr0 rfl rfl rfl rfl TWBS7.f32_4 ?_
            refine TQ.load1 rfl rfl rfl rfl TWBS7.s27 mm1 rfl ?_
            refine TQ.fieldAddr0 rfl rfl rfl rfl TWBS7.f32_5 ?_
            refine TQ.load1 rfl rfl rfl rfl TWBS7.s27 mm1 rfl ?_
            refine TQ.move rfl rfl rfl rfl ?_
            refine TQ.ixR h_c0f5 g38 rfl rfl rfl rfl rfl TWBS7.l27 TWBS7.n3 ?_
            refine TQ.ldIR h_c0f5 g38 rfl rfl rfl rfl TWBS7.s3 ?_
            refine TQ.ixR h_c0f4 g39 rfl rfl rfl rfl rfl TWBS7.l27 TWBS7.n3 ?_
            refine TQ.ldIR h_c0f4 g39 rfl rfl rfl rfl TWBS7.s3 ?_
            refine TQ.ix1 (List.length_set.trans hn27) g40 rfl rfl rfl rfl rfl TWBS7.l26 TWBS7.n2 ?_
            refine TQ.ldIO g40 rfl rfl rfl rfl TWBS7.s2 mm0 ?_
            refine TQ.move rfl rfl rfl rfl ?_
            refine TQ.fieldAddr0 rfl rfl rfl rfl TWBS7.f32_7 ?_
            refine TQ.load1 rfl rfl rfl rfl TWBS7.s27 mm1 rfl ?_
            refine TQ.move rfl rfl rfl rfl ?_
            refine TQ.ixR h_c0f7 g41 rfl rfl rfl rfl rfl TWBS7.l27 TWBS7.n3 ?_
            refine TQ.ldIR h_c0f7 g41 rfl rfl rfl rfl TWBS7.s3 ?_
            refine TQ.ixV hz20 hc18 hn17 g42 rfl rfl rfl rfl rfl TWBS7.l26 TWBS7.n2 ?_
            refine TQ.ldIV hz20 hc18 hn17 g42 rfl rfl rfl rfl TWBS7.s2 mm2 ?_
            refine TQ.tail [20, 21, 22] rfl rfl ?_
            refine TO.subG g43 rfl rfl rfl rfl rfl ?_
            refine TO.ix1 (List.length_set.trans hn27) g44 rfl rfl rfl rfl rfl TWBS7.l26 TWBS7.n2 ?_
            refine TO.stIO g44 rfl rfl rfl rfl tk0 TWBS7.n2 ?_
            refine TO.done ?_
            refine X.block_normal ?_
            refine X.seq_normal ?_
            refine T.trim (AllF.cons (t := 2) rfl (AllF.cons (t := 9) rfl (AllF.cons (t := 11) rfl (AllF.cons (t := 39) rfl (AllF.cons (t := 40) rfl (AllF.cons (t := 41) rfl AllF.nil)))))) ?_
            obtain ⟨g45, H⟩ := gd_some H
            refine T.regionL (ll := [0, 1]) rfl ?_
            refine TO.addG g45 rfl rfl rfl rfl rfl ?_
            refine TO.move rfl rfl rfl rfl ?_
            refine TO.done ?_
            have H := loop_next H C_3
            exact X.againE3 n_3 ((xs26.set (c0.Head.getD x28.toNat 0).toNat ((xs26.getD (c0.Head.getD x28.toNat 0).toNat 0) + (r10.getD (c0.Arc.getD x28.toNat 0).toNat 0))).set (c0.Head.getD (c0.Rev.getD x28.toNat 0).toNat 0).toNat (((xs26.set (c0.Head.getD x28.toNat 0).toNat ((xs26.getD (c0.Head.getD x28.toNat 0).toNat 0) + (r10.getD (c0.Arc.getD x28.toNat 0).toNat 0))).getD (c0.Head.getD (c0.Rev.getD x28.toNat 0).toNat 0).toNat 0) - (r10.getD (c0.Arc.getD x28.toNat 0).toNat 0))) (x28 + 1) ⟨H, (List.length_set.trans (List.length_set.trans hn27))⟩ (Nat.lt_succ_self _) (AllF.cons rfl (AllF.cons rfl (AllF.cons rfl (AllF.cons rfl (AllF.cons rfl (AllF.cons rfl AllF.nil)))))) (Pick.cons tk1 (Pick.cons tk1 (Pick.cons tk0 Pick.nil)))
          ·
            refine T.condF rfl (Bool.eq_false_iff.2 g31) ?_
            refine T.skip ?_
            refine X.block_normal ?_
            refine X.seq_normal ?_
            refine T.trim (AllF.cons (t := 2) rfl (AllF.cons (t := 9) rfl (AllF.cons (t := 11) rfl (AllF.cons (t := 39) rfl (AllF.cons (t := 40) rfl (AllF.cons (t := 41) rfl AllF.nil)))))) ?_
            obtain ⟨g46, H⟩ := gd_some H
            refine T.regionL (ll := [0, 1]) rfl ?_
            refine TO.addG g46 rfl rfl rfl rfl rfl ?_
            refine TO.move rfl rfl rfl rfl ?_
            refine TO.done ?_
            have H := loop_next H C_3
            exact X.againE3 n_3 xs26 (x28 + 1) ⟨H, hn27⟩ (Nat.lt_succ_self _) (AllF.cons rfl (AllF.cons rfl (AllF.cons rfl (AllF.cons rfl (AllF.cons rfl (AllF.cons rfl AllF.nil)))))) (Pick.cons tk0 (Pick.cons tk0 (Pick.cons tk0 Pick.nil)))
        ·
          refine T.condPF rfl g29 ?_
          refine T.exit ?_
          refine X.then_exit ?_
          have H := loop_exitE H C_3 ▸ K_3
          refine X.then_exit ?_
          refine X.block_here ?_
          exact X.metE1 xs26 ⟨H, hn27⟩ (AllF.cons rfl AllF.nil) (Pick.cons tk2 Pick.nil)
      · rintro xs47 ⟨H, hn48⟩
        unfold m_pre_brought_j4 at H
        refine T.seq ?_
        refine T.regionL (ll := [0, 1, 2]) rfl ?_
        refine TO.move rfl rfl rfl rfl ?_
        refine TO.assign rfl rfl rfl rfl ?_
        refine TO.assign rfl rfl rfl rfl ?_
        refine TO.done ?_
        refine X.seq_normal ?_
        refine T.ret ?_
        obtain ⟨rfl, rfl⟩ := ret2 H
        exact X.ret2 rfl rfl rfl rfl (Res.tmp rfl) (Res.tmp rfl) (Pick.cons tk0 Pick.nil) ⟨(some b24), c0.N.toNat, c0.N.toNat, ([]), rfl, rfl, hn48, (Nat.le_refl _), (zeroJ _ _), someZ⟩
/-- slices.Equal[[]int64,int64] -/
theorem w_slices_Equal_int64 {s10 : List Int} {s21 : List Int} {s10_b : Option Addr} {s10_n : Nat} {s10_c : Nat} {s21_b : Option Addr} {s21_n : Nat} {s21_c : Nat} (w : World) (h_s10 : RS w [] (intC .i64) 1 s10_b s10_n s10_c s10) (h_s21 : RS w [] (intC .i64) 1 s21_b s21_n s21_c s21) {r0 : Bool} (H : m_slices_Equal_int64 s10 s21 = some r0) : Fnc Try.prog 63 #[.slice s10_b s10_n s10_c, .slice s21_b s21_n s21_c] w [] (fun v N => v = .bool r0 ∧ N = []) := by
  unfold m_slices_Equal_int64 at H
  refine Fnc.enter (vs := [.slice s10_b s10_n s10_c, .slice s21_b s21_n s21_c]) Try.func63 rfl rfl (Inv.refl w) ?_
  refine T.seq ?_
  refine T.regionL (ll := [0]) rfl ?_
  refine TO.assign rfl rfl rfl rfl ?_
  refine TO.done ?_
  refine X.seq_normal ?_
  refine T.seq ?_
  refine T.seq ?_
  refine T.regionL (ll := [0, 1, 2, 3, 4]) rfl ?_
  refine TO.move rfl rfl rfl rfl ?_
  refine TO.lenX (xs := s10) h_s10.len rfl rfl rfl rfl rfl TWBS7.l26 ?_
  refine TO.move rfl rfl rfl rfl ?_
  refine TO.lenX (xs := s21) h_s21.len rfl rfl rfl rfl rfl TWBS7.l26 ?_
  refine TO.bin rfl rfl rfl rfl rfl rfl ?_
  refine TO.done ?_
  refine X.seq_normal ?_
  rcases ite_some H with ⟨g1, H⟩ | ⟨g1, H⟩
  ·
    refine T.condPT rfl g1 ?_
    refine T.seq ?_
    refine T.regionL (ll := [0]) rfl ?_
    refine TO.assign rfl rfl rfl rfl ?_
    refine TO.done ?_
    refine X.seq_normal ?_
    refine T.ret ?_
    refine X.then_ret ?_
    obtain rfl := ret1 H
    exact X.ret1 rfl rfl rfl rfl (Res.tmp rfl) Pick.nil ⟨rfl, rfl⟩
  ·
    refine T.condPF rfl g1 ?_
    refine T.skip ?_
    refine X.seq_normal ?_
    refine T.seq ?_
    refine T.seq ?_
    refine T.regionL (ll := [0, 1, 2]) rfl ?_
    refine TO.move rfl rfl rfl rfl ?_
    refine TO.lenX (xs := s10) h_s10.len rfl rfl rfl rfl rfl TWBS7.l26 ?_
    refine TO.move rfl rfl rfl rfl ?_
    refine TO.done ?_
    refine X.seq_normal ?_
    refine T.meetSE1 (fun (u8 : Unit) => m_slices_Equal_int64_j2 = some r0) (fun (u8 : Unit) => []) (fun (u8 : Unit) => []) ?_ ?_
    ·
      refine T.block ?_
      obtain ⟨o_1, e_1, K_1⟩ := bd_some H
      refine T.loopE2 (fun (m_1 : Nat) (x2 : Int) => loopM (fun s => m_slices_Equal_int64_s1 s10 s21 s) m_1 x2 = some o_1) (fun (m_1 : Nat) (x2 : Int) => [(0, .slice s10_b s10_n s10_c), (1, .slice s21_b s21_n s21_c), (12, .int .i64 (s10.length : Int)), (13, .int .i64 x2)]) (fun (m_1 : Nat) (x2 : Int) => []) (fun (m_1 : Nat) (x2 : Int) => m_1) FUEL 0 e_1 (AllF.cons rfl (AllF.cons rfl (AllF.cons rfl (AllF.cons rfl AllF.nil)))) Pick.nil ?_
      rintro m_1 x2 H
      obtain ⟨n_1, r_1, rfl, H, C_1⟩ := loopM_some H
      have H : m_slices_Equal_int64_s1 s10 s21 x2 = some r_1 := H
      unfold m_slices_Equal_int64_s1 at H
      refine T.seq ?_
      refine T.regionL (ll := [0]) rfl ?_
      refine TO.bin rfl rfl rfl rfl rfl rfl ?_
      refine TO.done ?_
      refine X.seq_normal ?_
      refine T.seq ?_
      rcases ite_some H with ⟨g3, H⟩ | ⟨g3, H⟩
      ·
        refine T.condPT rfl g3 ?_
        refine T.skip ?_
        refine X.seq_normal ?_
        refine T.seq ?_
        refine T.block ?_
        refine T.seq ?_
        refine T.regionL (ll := [0, 1]) rfl ?_
        refine TO.move rfl rfl rfl rfl ?_
        refine TO.assign rfl rfl rfl rfl ?_
        refine TO.done ?_
        refine X.seq_normal ?_
        refine T.seq ?_
        obtain ⟨g4, H⟩ := gd_some H
        obtain ⟨g5, H⟩ := gd_some H
        refine T.drawS 8 [0, 1, 2, 3, 4, 5, 6, 7] rfl mixed (by kernel_rfl) (by kernel_rfl) rfl (by kernel_rfl) ?_
        refine TQ.move rfl rfl rfl rfl ?_
        refine TQ.move rfl rfl rfl rfl ?_
        refine TQ.ixR h_s10 g4 rfl rfl rfl rfl rfl TWBS7.l26 TWBS7.n2 ?_
        refine TQ.ldIR h_s10 g4 rfl rfl rfl rfl TWBS7.s2 ?_
        refine TQ.move rfl rfl rfl rfl ?_
        refine TQ.move rfl rfl rfl rfl ?_
        refine TQ.ixR h_s21 g5 rfl rfl rfl rfl rfl TWBS7.l26 TWBS7.n2 ?_
        refine TQ.ldIR h_s21 g5 rfl rfl rfl rfl TWBS7.s2 ?_
        refine TQ.tail [8] rfl rfl ?_
        refine TO.bin rfl rfl rfl rfl rfl rfl ?_
        refine TO.done ?_
        refine X.seq_normal ?_
        refine T.trim (AllF.cons (t := 0) rfl (AllF.cons (t := 1) rfl (AllF.cons (t := 12) rfl (AllF.cons (t := 13) rfl (AllF.cons (t := 24) rfl AllF.nil))))) ?_
        rcases ite_some H with ⟨g6, H⟩ | ⟨g6, H⟩
        ·
          refine T.condPT rfl g6 ?_
          refine T.seq ?_
          refine T.regionL (ll := [0]) rfl ?_
          refine TO.assign rfl rfl rfl rfl ?_
          refine TO.done ?_
          refine X.seq_normal ?_
          refine T.ret ?_
          refine X.block_ret ?_
          refine X.then_ret ?_
          have H := loop_exitE H C_1 ▸ K_1
          refine X.then_ret ?_
          refine X.block_ret ?_
          refine X.then_ret ?_
          obtain rfl := ret1 H
          exact X.ret1 rfl rfl rfl rfl (Res.tmp rfl) Pick.nil ⟨rfl, rfl⟩
        ·
          refine T.condPF rfl g6 ?_
          refine T.skip ?_
          refine X.block_normal ?_
          refine X.seq_normal ?_
          obtain ⟨g7, H⟩ := gd_some H
          refine T.regionL (ll := [0, 1]) rfl ?_
          refine TO.addG g7 rfl rfl rfl rfl rfl ?_
          refine TO.move rfl rfl rfl rfl ?_
          refine TO.done ?_
          have H := loop_next H C_1
          exact X.againE2 n_1 (x2 + 1) H (Nat.lt_succ_self _) (AllF.cons rfl (AllF.cons rfl (AllF.cons rfl (AllF.cons rfl AllF.nil)))) Pick.nil
      ·
        refine T.condPF rfl g3 ?_
        refine T.exit ?_
        refine X.then_exit ?_
        have H := loop_exitE H C_1 ▸ K_1
        refine X.then_exit ?_
        refine X.block_here ?_
        exact X.metE1 () H AllF.nil Pick.nil
    · rintro u8 H
      unfold m_slices_Equal_int64_j2 at H
      refine T.seq ?_
      refine T.regionL (ll := [0]) rfl ?_
      refine TO.assign rfl rfl rfl rfl ?_
      refine TO.done ?_
      refine X.seq_normal ?_
      refine T.ret ?_
      obtain rfl := ret1 H
      exact X.ret1 rfl rfl rfl rfl (Res.tmp rfl) Pick.nil ⟨rfl, rfl⟩
/-- acequia/pre.heights$1 -/
theorem w_pre_heights_1 {x0 : Int} {c1 : Csr} {c1_k : Nat} {c1f3_b : Option Addr} {c1f3_n : Nat} {c1f3_c : Nat} {c1f4_b : Option Addr} {c1f4_n : Nat} {c1f4_c : Nat} {c1f5_b : Option Addr} {c1f5_n : Nat} {c1f5_c : Nat} {c1f6_b : Option Addr} {c1f6_n : Nat} {c1f6_c : Nat} {c1f7_b : Option Addr} {c1f7_n : Nat} {c1f7_c : Nat} {c1f8_b : Option Addr} {c1f8_n : Nat} {c1f8_c : Nat} (w : World) (h_c1f3 : RS w [] (intC .i64) 1 c1f3_b c1f3_n c1f3_c c1.First) (h_c1f4 : RS w [] (intC .i64) 1 c1f4_b c1f4_n c1f4_c c1.Head) (h_c1f5 : RS w [] (intC .i64) 1 c1f5_b c1f5_n c1f5_c c1.Rev) (h_c1f6 : RS w [] (intC .i64) 1 c1f6_b c1f6_n c1f6_c c1.Cap) (h_c1f7 : RS w [] (intC .i64) 1 c1f7_b c1f7_n c1f7_c c1.Arc) (h_c1f8 : RS w [] boolC 1 c1f8_b c1f8_n c1f8_c c1.Back) (h_c1_k : HB w [] c1_k [.int .i64 c1.N, .int .i64 c1.S, .int .i64 c1.T, .slice c1f3_b c1f3_n c1f3_c, .slice c1f4_b c1f4_n c1f4_c, .slice c1f5_b c1f5_n c1f5_c, .slice c1f6_b c1f6_n c1f6_c, .slice c1f7_b c1f7_n c1f7_c, .slice c1f8_b c1f8_n c1f8_c]) {r0 : Bool} (H : m_pre_heights_1 x0 c1 = some r0) : Fnc Try.prog 98 #[.int .i64 x0, .pointer (some ⟨c1_k, 0, none⟩)] w [] (fun v N => v = .bool r0 ∧ N = []) := by
  unfold m_pre_heights_1 at H
  refine Fnc.enter (vs := [.int .i64 x0, .pointer (some ⟨c1_k, 0, none⟩)]) Try.func98 rfl rfl (Inv.refl w) ?_
  refine T.seq ?_
  refine T.regionL (ll := [0]) rfl ?_
  refine TO.assign rfl rfl rfl rfl ?_
  refine TO.done ?_
  refine X.seq_normal ?_
  refine T.seq ?_
  rcases ite_some H with ⟨g1, H⟩ | ⟨g1, H⟩
  ·
    refine T.regionL (ll := [0, 1, 2, 3, 4, 5, 6, 7, 8, 9]) rfl ?_
    refine TO.move rfl rfl rfl rfl ?_
    refine TO.bin rfl rfl rfl rfl rfl rfl ?_
    refine TO.move rfl rfl rfl rfl ?_
    refine TO.decB (t := 6) (b' := true) rfl (decide_eq_true g1) ?_
    refine TO.shut rfl rfl rfl rfl ?_
    refine TO.shut rfl rfl rfl rfl ?_
    refine TO.shut rfl rfl rfl rfl ?_
    refine TO.shut rfl rfl rfl rfl ?_
    refine TO.shut rfl rfl rfl rfl ?_
    refine TO.pickT rfl rfl rfl rfl rfl ?_
    refine TO.assign rfl rfl rfl rfl ?_
    refine TO.done ?_
    refine X.seq_normal ?_
    refine T.trim (AllF.cons (t := 3) rfl AllF.nil) ?_
    refine T.ret ?_
    obtain rfl := ret1 H
    exact X.ret1 rfl rfl rfl rfl (Res.tmp rfl) Pick.nil ⟨rfl, rfl⟩
  ·
    obtain ⟨g2, H⟩ := gd_some H
    refine T.regionL (ll := [0, 1, 2, 3, 4, 5, 6, 7, 8, 9]) rfl ?_
    refine TO.move rfl rfl rfl rfl ?_
    refine TO.bin rfl rfl rfl rfl rfl rfl ?_
    refine TO.move rfl rfl rfl rfl ?_
    refine TO.decB (t := 6) (b' := false) rfl (decide_eq_false g1) ?_
    refine TO.move rfl rfl rfl rfl ?_
    refine TO.fieldAddr0 rfl rfl rfl rfl TWBS7.f32_0 ?_
    refine TO.ldHB h_c1_k rfl rfl rfl rfl rfl TWBS7.s3 ?_
    refine TO.mulG g2 rfl rfl rfl rfl rfl ?_
    refine TO.bin rfl rfl rfl rfl rfl rfl ?_
    refine TO.pickF rfl rfl rfl rfl rfl ?_
    refine TO.assign rfl rfl rfl rfl ?_
    refine TO.done ?_
    refine X.seq_normal ?_
    refine T.trim (AllF.cons (t := 3) rfl AllF.nil) ?_
    refine T.ret ?_
    obtain rfl := ret1 H
    exact X.ret1 rfl rfl rfl rfl (Res.tmp rfl) Pick.nil ⟨rfl, rfl⟩
/-- slices.IndexFunc[[]int,int] -/
theorem w_slices_IndexFunc_int_heights_1 {s0 : List Int} {f1_0 : Csr} {s0_b : Option Addr} {s0_n : Nat} {s0_c : Nat} {f1_0_k : Nat} {f1_0f3_b : Option Addr} {f1_0f3_n : Nat} {f1_0f3_c : Nat} {f1_0f4_b : Option Addr} {f1_0f4_n : Nat} {f1_0f4_c : Nat} {f1_0f5_b : Option Addr} {f1_0f5_n : Nat} {f1_0f5_c : Nat} {f1_0f6_b : Option Addr} {f1_0f6_n : Nat} {f1_0f6_c : Nat} {f1_0f7_b : Option Addr} {f1_0f7_n : Nat} {f1_0f7_c : Nat} {f1_0f8_b : Option Addr} {f1_0f8_n : Nat} {f1_0f8_c : Nat} (w : World) (h_s0 : RS w [] (intC .i64) 1 s0_b s0_n s0_c s0) (h_f1_0f3 : RS w [] (intC .i64) 1 f1_0f3_b f1_0f3_n f1_0f3_c f1_0.First) (h_f1_0f4 : RS w [] (intC .i64) 1 f1_0f4_b f1_0f4_n f1_0f4_c f1_0.Head) (h_f1_0f5 : RS w [] (intC .i64) 1 f1_0f5_b f1_0f5_n f1_0f5_c f1_0.Rev) (h_f1_0f6 : RS w [] (intC .i64) 1 f1_0f6_b f1_0f6_n f1_0f6_c f1_0.Cap) (h_f1_0f7 : RS w [] (intC .i64) 1 f1_0f7_b f1_0f7_n f1_0f7_c f1_0.Arc) (h_f1_0f8 : RS w [] boolC 1 f1_0f8_b f1_0f8_n f1_0f8_c f1_0.Back) (h_f1_0_k : HB w [] f1_0_k [.int .i64 f1_0.N, .int .i64 f1_0.S, .int .i64 f1_0.T, .slice f1_0f3_b f1_0f3_n f1_0f3_c, .slice f1_0f4_b f1_0f4_n f1_0f4_c, .slice f1_0f5_b f1_0f5_n f1_0f5_c, .slice f1_0f6_b f1_0f6_n f1_0f6_c, .slice f1_0f7_b f1_0f7_n f1_0f7_c, .slice f1_0f8_b f1_0f8_n f1_0f8_c]) {r0 : Int} (H : m_slices_IndexFunc_int_heights_1 s0 f1_0 = some r0) : Fnc Try.prog 108 #[.slice s0_b s0_n s0_c, .func (.func 98) #[] #[.pointer (some ⟨f1_0_k, 0, none⟩)]] w [] (fun v N => v = .int .i64 r0 ∧ N = []) := by
  unfold m_slices_IndexFunc_int_heights_1 at H
  refine Fnc.enter (vs := [.slice s0_b s0_n s0_c, .func (.func 98) #[] #[.pointer (some ⟨f1_0_k, 0, none⟩)]]) Try.func108 rfl rfl (Inv.refl w) ?_
  refine T.seq ?_
  refine T.regionL (ll := [0]) rfl ?_
  refine TO.assign rfl rfl rfl rfl ?_
  refine TO.done ?_
  refine X.seq_normal ?_
  refine T.seq ?_
  refine T.seq ?_
  refine T.regionL (ll := [0, 1, 2]) rfl ?_
  refine TO.move rfl rfl rfl rfl ?_
  refine TO.lenX (xs := s0) h_s0.len rfl rfl rfl rfl rfl TWBS7.l27 ?_
  refine TO.move rfl rfl rfl rfl ?_
  refine TO.done ?_
  refine X.seq_normal ?_
  refine T.meetSE1 (fun (u8 : Unit) => m_slices_IndexFunc_int_heights_1_j2 = some r0) (fun (u8 : Unit) => []) (fun (u8 : Unit) => []) ?_ ?_
  ·
    refine T.block ?_
    obtain ⟨o_1, e_1, K_1⟩ := bd_some H
    refine T.loopE2 (fun (m_1 : Nat) (x1 : Int) => loopM (fun s => m_slices_IndexFunc_int_heights_1_s1 s0 f1_0 s) m_1 x1 = some o_1) (fun (m_1 : Nat) (x1 : Int) => [(0, .slice s0_b s0_n s0_c), (1, .func (.func 98) #[] #[.pointer (some ⟨f1_0_k, 0, none⟩)]), (7, .int .i64 (s0.length : Int)), (8, .int .i64 x1)]) (fun (m_1 : Nat) (x1 : Int) => []) (fun (m_1 : Nat) (x1 : Int) => m_1) FUEL 0 e_1 (AllF.cons rfl (AllF.cons rfl (AllF.cons rfl (AllF.cons rfl AllF.nil)))) Pick.nil ?_
    rintro m_1 x1 H
    obtain ⟨n_1, r_1, rfl, H, C_1⟩ := loopM_some H
    have H : m_slices_IndexFunc_int_heights_1_s1 s0 f1_0 x1 = some r_1 := H
    unfold m_slices_IndexFunc_int_heights_1_s1 at H
    refine T.seq ?_
    refine T.regionL (ll := [0]) rfl ?_
    refine TO.bin rfl rfl rfl rfl rfl rfl ?_
    refine TO.done ?_
    refine X.seq_normal ?_
    refine T.seq ?_
    rcases ite_some H with ⟨g2, H⟩ | ⟨g2, H⟩
    ·
      refine T.condPT rfl g2 ?_
      refine T.skip ?_
      refine X.seq_normal ?_
      refine T.seq ?_
      refine T.block ?_
      refine T.seq ?_
      refine T.regionL (ll := [0, 1]) rfl ?_
      refine TO.move rfl rfl rfl rfl ?_
      refine TO.assign rfl rfl rfl rfl ?_
      refine TO.done ?_
      refine X.seq_normal ?_
      refine T.seq ?_
      obtain ⟨g3, H⟩ := gd_some H
      obtain ⟨r4, e5, H⟩ := bd_some H
      refine T.regionL (ll := [0, 1, 2, 3, 4, 5]) rfl ?_
      refine TO.move rfl rfl rfl rfl ?_
      refine TO.move rfl rfl rfl rfl ?_
      refine TO.move rfl rfl rfl rfl ?_
      refine TO.ixR h_s0 g3 rfl rfl rfl rfl rfl TWBS7.l27 TWBS7.n3 ?_
      refine TO.ldIR h_s0 g3 rfl rfl rfl rfl TWBS7.s3 ?_
      refine TO.callVX TWBS7.c98 rfl rfl rfl rfl rfl (fun wc hwc => w_pre_heights_1 (x0 := (s0.getD x1.toNat 0)) (c1 := f1_0) wc (h_f1_0f3.mono hwc) (h_f1_0f4.mono hwc) (h_f1_0f5.mono hwc) (h_f1_0f6.mono hwc) (h_f1_0f7.mono hwc) (h_f1_0f8.mono hwc) (h_f1_0_k.mono hwc) e5) ?_
      rintro _ _ ⟨rfl, rfl⟩
      refine TO.done ?_
      refine X.seq_normal ?_
      rcases ite_some H with ⟨g6, H⟩ | ⟨g6, H⟩
      ·
        refine T.condT rfl g6 ?_
        refine T.seq ?_
        refine T.regionL (ll := [0, 1]) rfl ?_
        refine TO.move rfl rfl rfl rfl ?_
        refine TO.assign rfl rfl rfl rfl ?_
        refine TO.done ?_
        refine X.seq_normal ?_
        refine T.trim (AllF.cons (t := 4) rfl AllF.nil) ?_
        refine T.ret ?_
        refine X.block_ret ?_
        refine X.then_ret ?_
        have H := loop_exitE H C_1 ▸ K_1
        refine X.then_ret ?_
        refine X.block_ret ?_
        refine X.then_ret ?_
        obtain rfl := ret1 H
        exact X.ret1 rfl rfl rfl rfl (Res.tmp rfl) Pick.nil ⟨rfl, rfl⟩
      ·
        refine T.condF rfl (Bool.eq_false_iff.2 g6) ?_
        refine T.skip ?_
        refine X.block_normal ?_
        refine X.seq_normal ?_
        refine T.trim (AllF.cons (t := 0) rfl (AllF.cons (t := 1) rfl (AllF.cons (t := 7) rfl (AllF.cons (t := 8) rfl AllF.nil)))) ?_
        obtain ⟨g7, H⟩ := gd_some H
        refine T.regionL (ll := [0, 1]) rfl ?_
        refine TO.addG g7 rfl rfl rfl rfl rfl ?_
        refine TO.move rfl rfl rfl rfl ?_
        refine TO.done ?_
        have H := loop_next H C_1
        exact X.againE2 n_1 (x1 + 1) H (Nat.lt_succ_self _) (AllF.cons rfl (AllF.cons rfl (AllF.cons rfl (AllF.cons rfl AllF.nil)))) Pick.nil
    ·
      refine T.condPF rfl g2 ?_
      refine T.exit ?_
      refine X.then_exit ?_
      have H := loop_exitE H C_1 ▸ K_1
      refine X.then_exit ?_
      refine X.block_here ?_
      exact X.metE1 () H AllF.nil Pick.nil
  · rintro u8 H
    unfold m_slices_IndexFunc_int_heights_1_j2 at H
    refine T.seq ?_
    refine T.regionL (ll := [0]) rfl ?_
    refine TO.assign rfl rfl rfl rfl ?_
    refine TO.done ?_
    refine X.seq_normal ?_
    refine T.ret ?_
    obtain rfl := ret1 H
    exact X.ret1 rfl rfl rfl rfl (Res.tmp rfl) Pick.nil ⟨rfl, rfl⟩
/-- slices.ContainsFunc[[]int,int] -/
theorem w_slices_ContainsFunc_int_heights_1 {s0 : List Int} {f1_0 : Csr} {s0_b : Option Addr} {s0_n : Nat} {s0_c : Nat} {f1_0_k : Nat} {f1_0f3_b : Option Addr} {f1_0f3_n : Nat} {f1_0f3_c : Nat} {f1_0f4_b : Option Addr} {f1_0f4_n : Nat} {f1_0f4_c : Nat} {f1_0f5_b : Option Addr} {f1_0f5_n : Nat} {f1_0f5_c : Nat} {f1_0f6_b : Option Addr} {f1_0f6_n : Nat} {f1_0f6_c : Nat} {f1_0f7_b : Option Addr} {f1_0f7_n : Nat} {f1_0f7_c : Nat} {f1_0f8_b : Option Addr} {f1_0f8_n : Nat} {f1_0f8_c : Nat} (w : World) (h_s0 : RS w [] (intC .i64) 1 s0_b s0_n s0_c s0) (h_f1_0f3 : RS w [] (intC .i64) 1 f1_0f3_b f1_0f3_n f1_0f3_c f1_0.First) (h_f1_0f4 : RS w [] (intC .i64) 1 f1_0f4_b f1_0f4_n f1_0f4_c f1_0.Head) (h_f1_0f5 : RS w [] (intC .i64) 1 f1_0f5_b f1_0f5_n f1_0f5_c f1_0.Rev) (h_f1_0f6 : RS w [] (intC .i64) 1 f1_0f6_b f1_0f6_n f1_0f6_c f1_0.Cap) (h_f1_0f7 : RS w [] (intC .i64) 1 f1_0f7_b f1_0f7_n f1_0f7_c f1_0.Arc) (h_f1_0f8 : RS w [] boolC 1 f1_0f8_b f1_0f8_n f1_0f8_c f1_0.Back) (h_f1_0_k : HB w [] f1_0_k [.int .i64 f1_0.N, .int .i64 f1_0.S, .int .i64 f1_0.T, .slice f1_0f3_b f1_0f3_n f1_0f3_c, .slice f1_0f4_b f1_0f4_n f1_0f4_c, .slice f1_0f5_b f1_0f5_n f1_0f5_c, .slice f1_0f6_b f1_0f6_n f1_0f6_c, .slice f1_0f7_b f1_0f7_n f1_0f7_c, .slice f1_0f8_b f1_0f8_n f1_0f8_c]) {r0 : Bool} (H : m_slices_ContainsFunc_int_heights_1 s0 f1_0 = some r0) : Fnc Try.prog 91 #[.slice s0_b s0_n s0_c, .func (.func 98) #[] #[.pointer (some ⟨f1_0_k, 0, none⟩)]] w [] (fun v N => v = .bool r0 ∧ N = []) := by
  unfold m_slices_ContainsFunc_int_heights_1 at H
  refine Fnc.enter (vs := [.slice s0_b s0_n s0_c, .func (.func 98) #[] #[.pointer (some ⟨f1_0_k, 0, none⟩)]]) Try.func91 rfl rfl (Inv.refl w) ?_
  refine T.seq ?_
  refine T.regionL (ll := [0]) rfl ?_
  refine TO.assign rfl rfl rfl rfl ?_
  refine TO.done ?_
  refine X.seq_normal ?_
  refine T.seq ?_
  obtain ⟨r1, e2, H⟩ := bd_some H
  refine T.regionL (ll := [0, 1, 2, 3, 4]) rfl ?_
  refine TO.move rfl rfl rfl rfl ?_
  refine TO.move rfl rfl rfl rfl ?_
  refine TO.callX TWBS7.c108 rfl rfl rfl rfl (fun wc hwc => w_slices_IndexFunc_int_heights_1 (s0 := s0) (f1_0 := f1_0) wc (h_s0.mono hwc) (h_f1_0f3.mono hwc) (h_f1_0f4.mono hwc) (h_f1_0f5.mono hwc) (h_f1_0f6.mono hwc) (h_f1_0f7.mono hwc) (h_f1_0f8.mono hwc) (h_f1_0_k.mono hwc) e2) ?_
  rintro _ _ ⟨rfl, rfl⟩
  refine TO.bin rfl rfl rfl rfl rfl rfl ?_
  refine TO.assign rfl rfl rfl rfl ?_
  refine TO.done ?_
  refine X.seq_normal ?_
  refine T.ret ?_
  obtain rfl := ret1 H
  exact X.ret1 rfl rfl rfl rfl (Res.tmp rfl) Pick.nil ⟨rfl, rfl⟩
/-- acequia/pre.heights -/
theorem w_pre_heights {c0 : Csr} {h1 : List Int} {c0f3_b : Option Addr} {c0f3_n : Nat} {c0f3_c : Nat} {c0f4_b : Option Addr} {c0f4_n : Nat} {c0f4_c : Nat} {c0f5_b : Option Addr} {c0f5_n : Nat} {c0f5_c : Nat} {c0f6_b : Option Addr} {c0f6_n : Nat} {c0f6_c : Nat} {c0f7_b : Option Addr} {c0f7_n : Nat} {c0f7_c : Nat} {c0f8_b : Option Addr} {c0f8_n : Nat} {c0f8_c : Nat} {h1_b : Option Addr} {h1_n : Nat} {h1_c : Nat} (w : World) (h_c0f3 : RS w [] (intC .i64) 1 c0f3_b c0f3_n c0f3_c c0.First) (h_c0f4 : RS w [] (intC .i64) 1 c0f4_b c0f4_n c0f4_c c0.Head) (h_c0f5 : RS w [] (intC .i64) 1 c0f5_b c0f5_n c0f5_c c0.Rev) (h_c0f6 : RS w [] (intC .i64) 1 c0f6_b c0f6_n c0f6_c c0.Cap) (h_c0f7 : RS w [] (intC .i64) 1 c0f7_b c0f7_n c0f7_c c0.Arc) (h_c0f8 : RS w [] boolC 1 c0f8_b c0f8_n c0f8_c c0.Back) (h_h1 : RS w [] (intC .i64) 1 h1_b h1_n h1_c h1) {r0 : Bool} (H : m_pre_heights c0 h1 = some r0) : Fnc Try.prog 64 #[.agg #[.int .i64 c0.N, .int .i64 c0.S, .int .i64 c0.T, .slice c0f3_b c0f3_n c0f3_c, .slice c0f4_b c0f4_n c0f4_c, .slice c0f5_b c0f5_n c0f5_c, .slice c0f6_b c0f6_n c0f6_c, .slice c0f7_b c0f7_n c0f7_c, .slice c0f8_b c0f8_n c0f8_c], .slice h1_b h1_n h1_c] w [] (fun v N => v = .bool r0 ∧ N = []) := by
  unfold m_pre_heights at H
  refine Fnc.enter (vs := [.agg #[.int .i64 c0.N, .int .i64 c0.S, .int .i64 c0.T, .slice c0f3_b c0f3_n c0f3_c, .slice c0f4_b c0f4_n c0f4_c, .slice c0f5_b c0f5_n c0f5_c, .slice c0f6_b c0f6_n c0f6_c, .slice c0f7_b c0f7_n c0f7_c, .slice c0f8_b c0f8_n c0f8_c], .slice h1_b h1_n h1_c]) Try.func64 rfl rfl (Inv.refl w) ?_
  refine T.seq ?_
  refine T.regionL (ll := [0, 1]) rfl ?_
  refine TO.boxA rfl rfl rfl rfl ?_; intro b1
  refine TO.assign rfl rfl rfl rfl ?_
  refine TO.done ?_
  refine X.seq_normal ?_
  refine T.seq ?_
  refine T.seq ?_
  rcases ite_some H with ⟨g3, H⟩ | ⟨g3, H⟩
  ·
    refine T.drawS 19 [0, 1, 2, 3, 4, 5, 6, 7, 8, 9, 10, 11, 12, 13, 14, 15, 16, 17, 18] rfl mixed (by kernel_rfl) (by kernel_rfl) rfl (by kernel_rfl) ?_
    refine TQ.move rfl rfl rfl rfl ?_
    refine TQ.lenX (xs := h1) h_h1.len rfl rfl rfl rfl rfl TWBS7.l27 ?_
    refine TQ.fieldAddr0 rfl rfl rfl rfl TWBS7.f32_0 ?_
    refine TQ.load1 rfl rfl rfl rfl TWBS7.s3 mm0 rfl ?_
    refine TQ.bin rfl rfl rfl rfl rfl rfl ?_
    refine TQ.move rfl rfl rfl rfl ?_
    refine TQ.decB (t := 10) (b' := true) rfl (decide_eq_true g3) ?_
    refine TQ.shut rfl rfl rfl rfl ?_
    refine TQ.shut rfl rfl rfl rfl ?_
    refine TQ.shut rfl rfl rfl rfl ?_
    refine TQ.shut rfl rfl rfl rfl ?_
    refine TQ.shut rfl rfl rfl rfl ?_
    refine TQ.shut rfl rfl rfl rfl ?_
    refine TQ.shut rfl rfl rfl rfl ?_
    refine TQ.shut rfl rfl rfl rfl ?_
    refine TQ.pickT rfl rfl rfl rfl rfl ?_
    refine TQ.move rfl rfl rfl rfl ?_
    refine TQ.shut rfl rfl rfl rfl ?_
    refine TQ.shut rfl rfl rfl rfl ?_
    refine TQ.shut rfl rfl rfl rfl ?_
    refine TQ.tail [19, 20, 21, 22] rfl rfl ?_
    refine TO.shut rfl rfl rfl rfl ?_
    refine TO.shut rfl rfl rfl rfl ?_
    refine TO.shut rfl rfl rfl rfl ?_
    refine TO.pickT rfl rfl rfl rfl rfl ?_
    refine TO.done ?_
    refine X.seq_normal ?_
    refine T.trim (AllF.cons (t := 1) rfl (AllF.cons (t := 2) rfl (AllF.cons (t := 27) rfl AllF.nil))) ?_
    refine T.condT rfl rfl ?_
    refine T.seq ?_
    refine T.regionL (ll := [0]) rfl ?_
    refine TO.assign rfl rfl rfl rfl ?_
    refine TO.done ?_
    refine X.seq_normal ?_
    refine T.ret ?_
    refine X.then_ret ?_
    obtain rfl := ret1 H
    exact X.ret1 rfl rfl rfl rfl (Res.tmp rfl) Pick.nil ⟨rfl, rfl⟩
  ·
    obtain ⟨g4, H⟩ := gd_some H
    rcases ite_some H with ⟨g5, H⟩ | ⟨g5, H⟩
    ·
      refine T.drawS 19 [0, 1, 2, 3, 4, 5, 6, 7, 8, 9, 10, 11, 12, 13, 14, 15, 16, 17, 18] rfl mixed (by kernel_rfl) (by kernel_rfl) rfl (by kernel_rfl) ?_
      refine TQ.move rfl rfl rfl rfl ?_
      refine TQ.lenX (xs := h1) h_h1.len rfl rfl rfl rfl rfl TWBS7.l27 ?_
      refine TQ.fieldAddr0 rfl rfl rfl rfl TWBS7.f32_0 ?_
      refine TQ.load1 rfl rfl rfl rfl TWBS7.s3 mm0 rfl ?_
      refine TQ.bin rfl rfl rfl rfl rfl rfl ?_
      refine TQ.move rfl rfl rfl rfl ?_
      refine TQ.decB (t := 10) (b' := false) rfl (decide_eq_false g3) ?_
      refine TQ.move rfl rfl rfl rfl ?_
      refine TQ.fieldAddr0 rfl rfl rfl rfl TWBS7.f32_1 ?_
      refine TQ.load1 rfl rfl rfl rfl TWBS7.s3 mm0 rfl ?_
      refine TQ.ixR h_h1 g4 rfl rfl rfl rfl rfl TWBS7.l27 TWBS7.n3 ?_
      refine TQ.ldIR h_h1 g4 rfl rfl rfl rfl TWBS7.s3 ?_
      refine TQ.fieldAddr0 rfl rfl rfl rfl TWBS7.f32_0 ?_
      refine TQ.load1 rfl rfl rfl rfl TWBS7.s3 mm0 rfl ?_
      refine TQ.bin rfl rfl rfl rfl rfl rfl ?_
      refine TQ.pickF rfl rfl rfl rfl rfl ?_
      refine TQ.move rfl rfl rfl rfl ?_
      refine TQ.decB (t := 20) (b' := true) rfl (decide_eq_true g5) ?_
      refine TQ.shut rfl rfl rfl rfl ?_
      refine TQ.shut rfl rfl rfl rfl ?_
      refine TQ.shut rfl rfl rfl rfl ?_
      refine TQ.tail [19, 20, 21, 22] rfl rfl ?_
      refine TO.shut rfl rfl rfl rfl ?_
      refine TO.shut rfl rfl rfl rfl ?_
      refine TO.shut rfl rfl rfl rfl ?_
      refine TO.pickT rfl rfl rfl rfl rfl ?_
      refine TO.done ?_
      refine X.seq_normal ?_
      refine T.trim (AllF.cons (t := 1) rfl (AllF.cons (t := 2) rfl (AllF.cons (t := 27) rfl AllF.nil))) ?_
      refine T.condT rfl rfl ?_
      refine T.seq ?_
      refine T.regionL (ll := [0]) rfl ?_
      refine TO.assign rfl rfl rfl rfl ?_
      refine TO.done ?_
      refine X.seq_normal ?_
      refine T.ret ?_
      refine X.then_ret ?_
      obtain rfl := ret1 H
      exact X.ret1 rfl rfl rfl rfl (Res.tmp rfl) Pick.nil ⟨rfl, rfl⟩
    ·
      obtain ⟨g6, H⟩ := gd_some H
      refine T.drawS 19 [0, 1, 2, 3, 4, 5, 6, 7, 8, 9, 10, 11, 12, 13, 14, 15, 16, 17, 18] rfl mixed (by kernel_rfl) (by kernel_rfl) rfl (by kernel_rfl) ?_
      refine TQ.move rfl rfl rfl rfl ?_
      refine TQ.lenX (xs := h1) h_h1.len rfl rfl rfl rfl rfl TWBS7.l27 ?_
      refine TQ.fieldAddr0 rfl rfl rfl rfl TWBS7.f32_0 ?_
      refine TQ.load1 rfl rfl rfl rfl TWBS7.s3 mm0 rfl ?_
      refine TQ.bin rfl rfl rfl rfl rfl rfl ?_
      refine TQ.move rfl rfl rfl rfl ?_
      refine TQ.decB (t := 10) (b' := false) rfl (decide_eq_false g3) ?_
      refine TQ.move rfl rfl rfl rfl ?_
      refine TQ.fieldAddr0 rfl rfl rfl rfl TWBS7.f32_1 ?_
      refine TQ.load1 rfl rfl rfl rfl TWBS7.s3 mm0 rfl ?_
      refine TQ.ixR h_h1 g4 rfl rfl rfl rfl rfl TWBS7.l27 TWBS7.n3 ?_
      refine TQ.ldIR h_h1 g4 rfl rfl rfl rfl TWBS7.s3 ?_
      refine TQ.fieldAddr0 rfl rfl rfl rfl TWBS7.f32_0 ?_
      refine TQ.load1 rfl rfl rfl rfl TWBS7.s3 mm0 rfl ?_
      refine TQ.bin rfl rfl rfl rfl rfl rfl ?_
      refine TQ.pickF rfl rfl rfl rfl rfl ?_
      refine TQ.move rfl rfl rfl rfl ?_
      refine TQ.decB (t := 20) (b' := false) rfl (decide_eq_false g5) ?_
      refine TQ.move rfl rfl rfl rfl ?_
      refine TQ.fieldAddr0 rfl rfl rfl rfl TWBS7.f32_2 ?_
      refine TQ.load1 rfl rfl rfl rfl TWBS7.s3 mm0 rfl ?_
      refine TQ.tail [19, 20, 21, 22] rfl rfl ?_
      refine TO.ixR h_h1 g6 rfl rfl rfl rfl rfl TWBS7.l27 TWBS7.n3 ?_
      refine TO.ldIR h_h1 g6 rfl rfl rfl rfl TWBS7.s3 ?_
      refine TO.bin rfl rfl rfl rfl rfl rfl ?_
      refine TO.pickF rfl rfl rfl rfl rfl ?_
      refine TO.done ?_
      refine X.seq_normal ?_
      refine T.trim (AllF.cons (t := 1) rfl (AllF.cons (t := 2) rfl (AllF.cons (t := 27) rfl AllF.nil))) ?_
      rcases ite_some H with ⟨g7, H⟩ | ⟨g7, H⟩
      ·
        refine T.condPT rfl g7 ?_
        refine T.seq ?_
        refine T.regionL (ll := [0]) rfl ?_
        refine TO.assign rfl rfl rfl rfl ?_
        refine TO.done ?_
        refine X.seq_normal ?_
        refine T.ret ?_
        refine X.then_ret ?_
        obtain rfl := ret1 H
        exact X.ret1 rfl rfl rfl rfl (Res.tmp rfl) Pick.nil ⟨rfl, rfl⟩
      ·
        refine T.condPF rfl g7 ?_
        refine T.skip ?_
        refine X.seq_normal ?_
        refine T.seq ?_
        obtain ⟨r8, e9, H⟩ := bd_some H
        refine T.regionL (ll := [0, 1, 2, 3, 4]) rfl ?_
        refine TO.move rfl rfl rfl rfl ?_
        refine TO.makeFunc rfl rfl rfl rfl rfl ?_
        refine TO.callX TWBS7.c91 rfl rfl rfl rfl (fun wc hwc => w_slices_ContainsFunc_int_heights_1 (s0 := h1) (f1_0 := c0) wc (h_h1.mono hwc) (h_c0f3.mono hwc) (h_c0f4.mono hwc) (h_c0f5.mono hwc) (h_c0f6.mono hwc) (h_c0f7.mono hwc) (h_c0f8.mono hwc) (hwc.hb (cs := [.int .i64 c0.N, .int .i64 c0.S, .int .i64 c0.T, .slice c0f3_b c0f3_n c0f3_c, .slice c0f4_b c0f4_n c0f4_c, .slice c0f5_b c0f5_n c0f5_c, .slice c0f6_b c0f6_n c0f6_c, .slice c0f7_b c0f7_n c0f7_c, .slice c0f8_b c0f8_n c0f8_c]) mm0) e9) ?_
        rintro _ _ ⟨rfl, rfl⟩
        refine TO.not rfl rfl rfl rfl ?_
        refine TO.assign rfl rfl rfl rfl ?_
        refine TO.done ?_
        refine X.seq_normal ?_
        refine T.ret ?_
        obtain rfl := ret1 H
        exact X.ret1 rfl rfl rfl rfl (Res.tmp rfl) Pick.nil ⟨rfl, rfl⟩
/-- acequia/pre.Right -/
theorem w_pre_Right {c0 : Csr} {p1 : Pre} {c0f3_b : Option Addr} {c0f3_n : Nat} {c0f3_c : Nat} {c0f4_b : Option Addr} {c0f4_n : Nat} {c0f4_c : Nat} {c0f5_b : Option Addr} {c0f5_n : Nat} {c0f5_c : Nat} {c0f6_b : Option Addr} {c0f6_n : Nat} {c0f6_c : Nat} {c0f7_b : Option Addr} {c0f7_n : Nat} {c0f7_c : Nat} {c0f8_b : Option Addr} {c0f8_n : Nat} {c0f8_c : Nat} {p1f0_b : Option Addr} {p1f0_n : Nat} {p1f0_c : Nat} {p1f1_b : Option Addr} {p1f1_n : Nat} {p1f1_c : Nat} {p1f2_b : Option Addr} {p1f2_n : Nat} {p1f2_c : Nat} (w : World) (h_c0f3 : RS w [] (intC .i64) 1 c0f3_b c0f3_n c0f3_c c0.First) (h_c0f4 : RS w [] (intC .i64) 1 c0f4_b c0f4_n c0f4_c c0.Head) (h_c0f5 : RS w [] (intC .i64) 1 c0f5_b c0f5_n c0f5_c c0.Rev) (h_c0f6 : RS w [] (intC .i64) 1 c0f6_b c0f6_n c0f6_c c0.Cap) (h_c0f7 : RS w [] (intC .i64) 1 c0f7_b c0f7_n c0f7_c c0.Arc) (h_c0f8 : RS w [] boolC 1 c0f8_b c0f8_n c0f8_c c0.Back) (h_p1f0 : RS w [] (intC .i64) 1 p1f0_b p1f0_n p1f0_c p1.Res) (h_p1f1 : RS w [] (intC .i64) 1 p1f1_b p1f1_n p1f1_c p1.Ex) (h_p1f2 : RS w [] (intC .i64) 1 p1f2_b p1f2_n p1f2_c p1.H) {r0 : Bool} (H : m_pre_Right c0 p1 = some r0) : Fnc Try.prog 19 #[.agg #[.int .i64 c0.N, .int .i64 c0.S, .int .i64 c0.T, .slice c0f3_b c0f3_n c0f3_c, .slice c0f4_b c0f4_n c0f4_c, .slice c0f5_b c0f5_n c0f5_c, .slice c0f6_b c0f6_n c0f6_c, .slice c0f7_b c0f7_n c0f7_c, .slice c0f8_b c0f8_n c0f8_c], .agg #[.slice p1f0_b p1f0_n p1f0_c, .slice p1f1_b p1f1_n p1f1_c, .slice p1f2_b p1f2_n p1f2_c]] w [] (fun v N => v = .bool r0 ∧ N = []) := by
  unfold m_pre_Right at H
  refine Fnc.enterM (vs := [.agg #[.int .i64 c0.N, .int .i64 c0.S, .int .i64 c0.T, .slice c0f3_b c0f3_n c0f3_c, .slice c0f4_b c0f4_n c0f4_c, .slice c0f5_b c0f5_n c0f5_c, .slice c0f6_b c0f6_n c0f6_c, .slice c0f7_b c0f7_n c0f7_c, .slice c0f8_b c0f8_n c0f8_c], .agg #[.slice p1f0_b p1f0_n p1f0_c, .slice p1f1_b p1f1_n p1f1_c, .slice p1f2_b p1f2_n p1f2_c]]) Try.func19 rfl rfl (Inv.refl w) ?_
  refine T.seq ?_
  refine T.regionL (ll := [0, 1, 2]) rfl ?_
  refine TO.boxA rfl rfl rfl rfl ?_; intro b1
  refine TO.boxA rfl rfl rfl rfl ?_; intro b3
  refine TO.alloc rfl rfl rfl TWBS7.z4 ?_; intro b5
  refine TO.done ?_
  refine X.seq_normal ?_
  refine T.seq ?_
  obtain ⟨⟨r7, r8⟩, e9, H⟩ := bd_some H
  refine T.regionL (ll := [0, 1, 2, 3, 4, 5, 6, 7, 8]) rfl ?_
  refine TO.loadA rfl rfl rfl rfl TWBS7.a32 mm2 rfl ?_
  refine TO.fieldAddr0 rfl rfl rfl rfl TWBS7.f29_0 ?_
  refine TO.load1 rfl rfl rfl rfl TWBS7.s26 mm1 rfl ?_
  refine TO.callX TWBS7.c62 rfl rfl rfl rfl (fun wc hwc => w_pre_brought (c0 := c0) (res1 := p1.Res) wc (h_c0f3.mono hwc) (h_c0f4.mono hwc) (h_c0f5.mono hwc) (h_c0f6.mono hwc) (h_c0f7.mono hwc) (h_c0f8.mono hwc) (h_p1f0.mono hwc) e9) ?_
  rintro _ _ ⟨ob10, n11, c12, j13, rfl, rfl, hn14, hc15, hj16, hz17⟩
  refine TO.move rfl rfl rfl rfl ?_
  refine TO.extract rfl rfl rfl rfl rfl ?_
  refine TO.extract rfl rfl rfl rfl rfl ?_
  refine TO.assign rfl rfl rfl rfl ?_
  refine TO.assign rfl rfl rfl rfl ?_
  refine TO.done ?_
  refine X.seq_normal ?_
  refine T.trim (AllF.cons (t := 2) rfl (AllF.cons (t := 3) rfl (AllF.cons (t := 4) rfl (AllF.cons (t := 5) rfl (AllF.cons (t := 6) rfl AllF.nil))))) ?_
  refine T.seq ?_
  refine T.seq ?_
  rcases ite_some H with ⟨g19, H⟩ | ⟨g19, H⟩
  ·
    refine T.regionL (ll := [0, 1, 2, 3, 4, 5, 6, 7, 8, 9, 10, 11, 12, 13, 14, 15]) rfl ?_
    refine TO.move rfl rfl rfl rfl ?_
    refine TO.not rfl rfl rfl rfl ?_
    refine TO.move rfl rfl rfl rfl ?_
    refine TO.decB (t := 18) (b' := true) rfl g19 ?_
    refine TO.shut rfl rfl rfl rfl ?_
    refine TO.shut rfl rfl rfl rfl ?_
    refine TO.shut rfl rfl rfl rfl ?_
    refine TO.shut rfl rfl rfl rfl ?_
    refine TO.shut rfl rfl rfl rfl ?_
    refine TO.pickT rfl rfl rfl rfl rfl ?_
    refine TO.move rfl rfl rfl rfl ?_
    refine TO.shut rfl rfl rfl rfl ?_
    refine TO.shut rfl rfl rfl rfl ?_
    refine TO.shut rfl rfl rfl rfl ?_
    refine TO.shut rfl rfl rfl rfl ?_
    refine TO.shut rfl rfl rfl rfl ?_
    refine TO.pickT rfl rfl rfl rfl rfl ?_
    refine TO.done ?_
    refine X.seq_normal ?_
    refine T.trim (AllF.cons (t := 2) rfl (AllF.cons (t := 3) rfl (AllF.cons (t := 4) rfl (AllF.cons (t := 31) rfl AllF.nil)))) ?_
    refine T.condT rfl rfl ?_
    refine T.seq ?_
    refine T.regionL (ll := [0]) rfl ?_
    refine TO.store1n (cs' := [.bool false]) rfl rfl rfl rfl tk1 TWBS7.n4 rfl rfl rfl ?_
    refine TO.done ?_
    refine X.seq_normal ?_
    refine T.ret ?_
    refine X.then_ret ?_
    obtain rfl := ret1 H
    exact X.retM1 [] rfl rfl rfl rfl rfl (Pick.refl _) (Res.cell1 rfl TWBS7.s4 mm0 rfl) Pick.nil ⟨rfl, rfl⟩
  ·
    obtain ⟨r20, e21, H⟩ := bd_some H
    rcases ite_some H with ⟨g22, H⟩ | ⟨g22, H⟩
    ·
      refine T.regionL (ll := [0, 1, 2, 3, 4, 5, 6, 7, 8, 9, 10, 11, 12, 13, 14, 15]) rfl ?_
      refine TO.move rfl rfl rfl rfl ?_
      refine TO.not rfl rfl rfl rfl ?_
      refine TO.move rfl rfl rfl rfl ?_
      refine TO.decB (t := 18) (b' := false) rfl (Bool.eq_false_iff.2 g19) ?_
      refine TO.move rfl rfl rfl rfl ?_
      refine TO.fieldAddr0 rfl rfl rfl rfl TWBS7.f29_1 ?_
      refine TO.load1 rfl rfl rfl rfl TWBS7.s26 mm2 rfl ?_
      refine TO.callX TWBS7.c63 rfl rfl rfl rfl (fun wc hwc => w_slices_Equal_int64 (s10 := r7) (s21 := p1.Ex) wc (hwc.rs (f := (intC .i64)) (s := 1) (xs := r7) (j := j13) (fun _ => rfl) mm0 hn14 hc15 hz17) (h_p1f1.mono hwc) e21) ?_
      rintro _ _ ⟨rfl, rfl⟩
      refine TO.not rfl rfl rfl rfl ?_
      refine TO.pickF rfl rfl rfl rfl rfl ?_
      refine TO.move rfl rfl rfl rfl ?_
      refine TO.decB (t := 25) (b' := true) rfl g22 ?_
      refine TO.shut rfl rfl rfl rfl ?_
      refine TO.shut rfl rfl rfl rfl ?_
      refine TO.shut rfl rfl rfl rfl ?_
      refine TO.shut rfl rfl rfl rfl ?_
      refine TO.shut rfl rfl rfl rfl ?_
      refine TO.pickT rfl rfl rfl rfl rfl ?_
      refine TO.done ?_
      refine X.seq_normal ?_
      refine T.trim (AllF.cons (t := 2) rfl (AllF.cons (t := 3) rfl (AllF.cons (t := 4) rfl (AllF.cons (t := 31) rfl AllF.nil)))) ?_
      refine T.condT rfl rfl ?_
      refine T.seq ?_
      refine T.regionL (ll := [0]) rfl ?_
      refine TO.store1n (cs' := [.bool false]) rfl rfl rfl rfl tk1 TWBS7.n4 rfl rfl rfl ?_
      refine TO.done ?_
      refine X.seq_normal ?_
      refine T.ret ?_
      refine X.then_ret ?_
      obtain rfl := ret1 H
      exact X.retM1 [] rfl rfl rfl rfl rfl (Pick.refl _) (Res.cell1 rfl TWBS7.s4 mm0 rfl) Pick.nil ⟨rfl, rfl⟩
    ·
      obtain ⟨r23, e24, H⟩ := bd_some H
      refine T.regionL (ll := [0, 1, 2, 3, 4, 5, 6, 7, 8, 9, 10, 11, 12, 13, 14, 15]) rfl ?_
      refine TO.move rfl rfl rfl rfl ?_
      refine TO.not rfl rfl rfl rfl ?_
      refine TO.move rfl rfl rfl rfl ?_
      refine TO.decB (t := 18) (b' := false) rfl (Bool.eq_false_iff.2 g19) ?_
      refine TO.move rfl rfl rfl rfl ?_
      refine TO.fieldAddr0 rfl rfl rfl rfl TWBS7.f29_1 ?_
      refine TO.load1 rfl rfl rfl rfl TWBS7.s26 mm2 rfl ?_
      refine TO.callX TWBS7.c63 rfl rfl rfl rfl (fun wc hwc => w_slices_Equal_int64 (s10 := r7) (s21 := p1.Ex) wc (hwc.rs (f := (intC .i64)) (s := 1) (xs := r7) (j := j13) (fun _ => rfl) mm0 hn14 hc15 hz17) (h_p1f1.mono hwc) e21) ?_
      rintro _ _ ⟨rfl, rfl⟩
      refine TO.not rfl rfl rfl rfl ?_
      refine TO.pickF rfl rfl rfl rfl rfl ?_
      refine TO.move rfl rfl rfl rfl ?_
      refine TO.decB (t := 25) (b' := false) rfl (Bool.eq_false_iff.2 g22) ?_
      refine TO.loadA rfl rfl rfl rfl TWBS7.a32 mm3 rfl ?_
      refine TO.fieldAddr0 rfl rfl rfl rfl TWBS7.f29_2 ?_
      refine TO.load1 rfl rfl rfl rfl TWBS7.s27 mm2 rfl ?_
      refine TO.callX TWBS7.c64 rfl rfl rfl rfl (fun wc hwc => w_pre_heights (c0 := c0) (h1 := p1.H) wc (h_c0f3.mono hwc) (h_c0f4.mono hwc) (h_c0f5.mono hwc) (h_c0f6.mono hwc) (h_c0f7.mono hwc) (h_c0f8.mono hwc) (h_p1f2.mono hwc) e24) ?_
      rintro _ _ ⟨rfl, rfl⟩
      refine TO.not rfl rfl rfl rfl ?_
      refine TO.pickF rfl rfl rfl rfl rfl ?_
      refine TO.done ?_
      refine X.seq_normal ?_
      refine T.trim (AllF.cons (t := 2) rfl (AllF.cons (t := 3) rfl (AllF.cons (t := 4) rfl (AllF.cons (t := 31) rfl AllF.nil)))) ?_
      rcases ite_some H with ⟨g25, H⟩ | ⟨g25, H⟩
      ·
        refine T.condT rfl g25 ?_
        refine T.seq ?_
        refine T.regionL (ll := [0]) rfl ?_
        refine TO.store1n (cs' := [.bool false]) rfl rfl rfl rfl tk1 TWBS7.n4 rfl rfl rfl ?_
        refine TO.done ?_
        refine X.seq_normal ?_
        refine T.ret ?_
        refine X.then_ret ?_
        obtain rfl := ret1 H
        exact X.retM1 [] rfl rfl rfl rfl rfl (Pick.refl _) (Res.cell1 rfl TWBS7.s4 mm0 rfl) Pick.nil ⟨rfl, rfl⟩
      ·
        refine T.condF rfl (Bool.eq_false_iff.2 g25) ?_
        refine T.skip ?_
        refine X.seq_normal ?_
        refine T.seq ?_
        refine T.seq ?_
        refine T.regionL (ll := [0, 1, 2]) rfl ?_
        refine TO.fieldAddr0 rfl rfl rfl rfl TWBS7.f32_0 ?_
        refine TO.load1 rfl rfl rfl rfl TWBS7.s3 mm3 rfl ?_
        refine TO.move rfl rfl rfl rfl ?_
        refine TO.done ?_
        refine X.seq_normal ?_
        refine T.meetSEM1 (fun (ms64 : List Nat) => m_pre_Right_j4 = some r0) (fun (ms64 : List Nat) => [(4, .pointer (some ⟨b5, 0, none⟩))]) (fun (ms64 : List Nat) => ((some b5, .cells #[.bool false] 4 (0, 0)) :: markH ms64)) (fun (ms64 : List Nat) => ms64.map mkD) ?_ ?_
        ·
          refine T.block ?_
          obtain ⟨o_1, e_1, K_1⟩ := bd_some H
          refine T.loopEM3 (fun (m_1 : Nat) (x26 : Int) (ms27 : List Nat) => loopM (fun s => m_pre_Right_s1 c0 p1 s) m_1 x26 = some o_1) (fun (m_1 : Nat) (x26 : Int) (ms27 : List Nat) => [(2, .pointer (some ⟨b1, 0, none⟩)), (3, .pointer (some ⟨b3, 0, none⟩)), (4, .pointer (some ⟨b5, 0, none⟩)), (33, .int .i64 c0.N), (34, .int .i64 x26)]) (fun (m_1 : Nat) (x26 : Int) (ms27 : List Nat) => ((some b1, .cells #[.int .i64 c0.N, .int .i64 c0.S, .int .i64 c0.T, .slice c0f3_b c0f3_n c0f3_c, .slice c0f4_b c0f4_n c0f4_c, .slice c0f5_b c0f5_n c0f5_c, .slice c0f6_b c0f6_n c0f6_c, .slice c0f7_b c0f7_n c0f7_c, .slice c0f8_b c0f8_n c0f8_c] 32 (0, 0)) :: (some b3, .cells #[.slice p1f0_b p1f0_n p1f0_c, .slice p1f1_b p1f1_n p1f1_c, .slice p1f2_b p1f2_n p1f2_c] 29 (0, 0)) :: (some b5, .cells #[.bool false] 4 (0, 0)) :: markH ms27)) (fun (m_1 : Nat) (x26 : Int) (ms27 : List Nat) => m_1) (fun (m_1 : Nat) (x26 : Int) (ms27 : List Nat) => ms27.map mkD) FUEL 0 ([]) rfl e_1 (AllF.cons rfl (AllF.cons rfl (AllF.cons rfl (AllF.cons rfl (AllF.cons rfl AllF.nil))))) (Pick.cons tk3 (Pick.cons tk2 (Pick.cons tk1 (Pick.skip (Pick.refl _))))) ?_
          rintro m_1 x26 ms27 H
          obtain ⟨n_1, r_1, rfl, H, C_1⟩ := loopM_some H
          have H : m_pre_Right_s1 c0 p1 x26 = some r_1 := H
          unfold m_pre_Right_s1 at H
          refine T.seq ?_
          refine T.regionL (ll := [0]) rfl ?_
          refine TO.bin rfl rfl rfl rfl rfl rfl ?_
          refine TO.done ?_
          refine X.seq_normal ?_
          refine T.seq ?_
          rcases ite_some H with ⟨g28, H⟩ | ⟨g28, H⟩
          ·
            refine T.condPT rfl g28 ?_
            refine T.skip ?_
            refine X.seq_normal ?_
            refine T.seq ?_
            refine T.block ?_
            refine T.seq ?_
            refine T.regionL (ll := [0, 1, 2]) rfl ?_
            refine TO.move rfl rfl rfl rfl ?_
            refine TO.alloc rfl rfl rfl TWBS7.z3 ?_; intro b29
            refine TO.store1n (cs' := [.int .i64 x26]) rfl rfl rfl rfl tk0 TWBS7.n3 rfl rfl rfl ?_
            refine TO.done ?_
            refine X.seq_normal ?_
            refine T.seq ?_
            refine T.seq ?_
            rcases ite_some H with ⟨g31, H⟩ | ⟨g31, H⟩
            ·
              obtain ⟨g32, H⟩ := gd_some H
              refine T.regionL (ll := [0, 1, 2, 3, 4, 5, 6, 7, 8, 9, 10, 11]) rfl ?_
              refine TO.load1 rfl rfl rfl rfl TWBS7.s3 mm0 rfl ?_
              refine TO.fieldAddr0 rfl rfl rfl rfl TWBS7.f32_1 ?_
              refine TO.load1 rfl rfl rfl rfl TWBS7.s3 mm1 rfl ?_
              refine TO.bin rfl rfl rfl rfl rfl rfl ?_
              refine TO.move rfl rfl rfl rfl ?_
              refine TO.decB (t := 41) (b' := true) rfl (decide_eq_true g31) ?_
              refine TO.fieldAddr0 rfl rfl rfl rfl TWBS7.f29_1 ?_
              refine TO.load1 rfl rfl rfl rfl TWBS7.s26 mm2 rfl ?_
              refine TO.load1 rfl rfl rfl rfl TWBS7.s3 mm0 rfl ?_
              refine TO.ixR h_p1f1 g32 rfl rfl rfl rfl rfl TWBS7.l26 TWBS7.n2 ?_
              refine TO.ldIR h_p1f1 g32 rfl rfl rfl rfl TWBS7.s2 ?_
              refine TO.bin rfl rfl rfl rfl rfl rfl ?_
              refine TO.pickT rfl rfl rfl rfl rfl ?_
              refine TO.done ?_
              refine X.seq_normal ?_
              rcases ite_some H with ⟨g33, H⟩ | ⟨g33, H⟩
              ·
                refine T.condPT rfl g33 ?_
                refine T.seq ?_
                refine T.regionL (ll := [0]) rfl ?_
                refine TO.store1n (cs' := [.bool false]) rfl rfl rfl rfl tk3 TWBS7.n4 rfl rfl rfl ?_
                refine TO.done ?_
                refine X.seq_normal ?_
                refine T.trim (AllF.cons (t := 4) rfl AllF.nil) ?_
                refine T.ret ?_
                refine X.then_ret ?_
                refine X.block_ret ?_
                refine X.then_ret ?_
                have H := loop_exitE H C_1 ▸ K_1
                refine X.then_ret ?_
                refine X.block_ret ?_
                refine X.then_ret ?_
                obtain rfl := ret1 H
                exact X.retM1 (ms27) rfl rfl rfl rfl rfl (Pick.tailM (Es := [_, _, _, _]) (Pick.refl _)) (Res.cell1 rfl TWBS7.s4 mm0 rfl) Pick.nil ⟨rfl, rfl⟩
              ·
                refine T.condPF rfl g33 ?_
                refine T.skip ?_
                refine X.seq_normal ?_
                refine T.trim (AllF.cons (t := 2) rfl (AllF.cons (t := 3) rfl (AllF.cons (t := 4) rfl (AllF.cons (t := 33) rfl (AllF.cons (t := 34) rfl (AllF.cons (t := 7) rfl (AllF.cons (t := 42) rfl (AllF.cons (t := 43) rfl (AllF.cons (t := 44) rfl (AllF.cons (t := 45) rfl (AllF.cons (t := 46) rfl (AllF.cons (t := 47) rfl AllF.nil)))))))))))) ?_
                refine T.seq ?_
                obtain ⟨⟨⟩, e34, H⟩ := bd_some H
                refine T.regionL (ll := [0, 1, 2]) rfl ?_
                refine TO.loadA rfl rfl rfl rfl TWBS7.a32 mm1 rfl ?_
                refine TO.load1 rfl rfl rfl rfl TWBS7.s3 mm0 rfl ?_
                refine TO.callX TWBS7.c59 rfl rfl rfl rfl (fun wc hwc => w_pre_arcs (c0 := c0) (u1 := x26) wc (h_c0f3.mono hwc) (h_c0f4.mono hwc) (h_c0f5.mono hwc) (h_c0f6.mono hwc) (h_c0f7.mono hwc) (h_c0f8.mono hwc) e34) ?_
                rintro _ _ ⟨b35, b36, rfl, rfl⟩
                refine TO.done ?_
                refine X.seq_normal ?_
                refine T.block ?_
                obtain ⟨t_2, e_2, K_2⟩ := bd_some H
                refine T.rangeFunc (S := (Unit)) (X := (Unit)) (V := Int) rfl TWBS7.c97 rfl rfl (fun v => [.int .i64 v]) (fun _ => rfl) (fun s v => m_pre_Right_y2 c0 p1 x26 v) (fun t Hq => match t with | .inl _ => ∃ (u39 : Unit), Hq = [(some b5, .cells #[.bool false] 4 (0, 0))] | .inr _ => ∃ (u39 : Unit), Hq = [(some b5, .cells #[.bool false] 4 (0, 0))]) (fun _ => .ret) () t_2 [(some b5, .cells #[.bool false] 4 (0, 0))] ((some b35, .cells #[.int .i64 c0.N, .int .i64 c0.S, .int .i64 c0.T, .slice c0f3_b c0f3_n c0f3_c, .slice c0f4_b c0f4_n c0f4_c, .slice c0f5_b c0f5_n c0f5_c, .slice c0f6_b c0f6_n c0f6_c, .slice c0f7_b c0f7_n c0f7_c, .slice c0f8_b c0f8_n c0f8_c] 32 (0, 0)) :: (some b36, .cells #[.int .i64 x26] 3 (0, 0)) :: (some b29, .cells #[.int .i64 x26] 3 (0, 0)) :: (some b1, .cells #[.int .i64 c0.N, .int .i64 c0.S, .int .i64 c0.T, .slice c0f3_b c0f3_n c0f3_c, .slice c0f4_b c0f4_n c0f4_c, .slice c0f5_b c0f5_n c0f5_c, .slice c0f6_b c0f6_n c0f6_c, .slice c0f7_b c0f7_n c0f7_c, .slice c0f8_b c0f8_n c0f8_c] 32 (0, 0)) :: (some b3, .cells #[.slice p1f0_b p1f0_n p1f0_c, .slice p1f1_b p1f1_n p1f1_c, .slice p1f2_b p1f2_n p1f2_c] 29 (0, 0)) :: markH ms27) ⟨(), rfl⟩ (Pick.cons tk5 (Pick.refl _)) ?_ ?_ ?_ ?_
                · intro lp wc J_ H0_ hJ_ hin_ hY_ lo_ hwc hH0
                  subst hH0
                  exact w_pre_arcs_1 (yy_ := (fun s v => m_pre_Right_y2 c0 p1 x26 v)) (c1 := c0) (c2 := x26) (tt_ := .inl ()) (J_ := J_) wc hin_ hJ_ hY_ (h_c0f3.monoM (by decide) hwc (List.Perm.refl _) rfl) (h_c0f4.monoM (by decide) hwc (List.Perm.refl _) rfl) (h_c0f5.monoM (by decide) hwc (List.Perm.refl _) rfl) (h_c0f6.monoM (by decide) hwc (List.Perm.refl _) rfl) (h_c0f7.monoM (by decide) hwc (List.Perm.refl _) rfl) (h_c0f8.monoM (by decide) hwc (List.Perm.refl _) rfl) (hwc.hbM (cs := [.int .i64 c0.N, .int .i64 c0.S, .int .i64 c0.T, .slice c0f3_b c0f3_n c0f3_c, .slice c0f4_b c0f4_n c0f4_c, .slice c0f5_b c0f5_n c0f5_c, .slice c0f6_b c0f6_n c0f6_c, .slice c0f7_b c0f7_n c0f7_c, .slice c0f8_b c0f8_n c0f8_c]) (List.Perm.refl _) rfl mm0) (hwc.hbM (cs := [.int .i64 x26]) (List.Perm.refl _) rfl mm1) e_2
                · rintro lp w_1 _ y40 r_2 _ hy ⟨u39, rfl⟩ hs_1 ho_1
                  refine ⟨[(2, .pointer (some ⟨b1, 0, none⟩)), (3, .pointer (some ⟨b3, 0, none⟩)), (4, .pointer (some ⟨b5, 0, none⟩)), (7, .pointer (some ⟨b29, 0, none⟩)), (33, .int .i64 c0.N), (34, .int .i64 x26), (42, .pointer (some ⟨b3, 1, none⟩)), (43, .slice p1f1_b p1f1_n p1f1_c), (44, .int .i64 x26), (46, .int .i64 (p1.Ex.getD x26.toNat 0)), (47, .bool (decide ((p1.Ex.getD x26.toNat 0) < 0))), (52, .int .i64 y40), (8, .int .i64 y40)], [(some b5, .cells #[.bool false] 4 (0, 0))], ?_, ?_⟩
                  ·
                    refine T.regionL (ll := [0]) rfl ?_
                    refine TO.assign rfl rfl rfl rfl ?_
                    refine TO.done ?_
                    exact X.asg (AllF.cons rfl (AllF.cons rfl (AllF.cons rfl (AllF.cons rfl (AllF.cons rfl (AllF.cons rfl (AllF.cons rfl (AllF.cons rfl (AllF.cons rfl (AllF.cons rfl (AllF.cons rfl (AllF.cons rfl (AllF.cons rfl AllF.nil))))))))))))) (Pick.refl _)
                  · intro w_2 hs_2 hwc
                    have h_c0f3 := h_c0f3.monoM (by decide) hwc (List.Perm.refl _) rfl
                    have h_c0f4 := h_c0f4.monoM (by decide) hwc (List.Perm.refl _) rfl
                    have h_c0f5 := h_c0f5.monoM (by decide) hwc (List.Perm.refl _) rfl
                    have h_c0f6 := h_c0f6.monoM (by decide) hwc (List.Perm.refl _) rfl
                    have h_c0f7 := h_c0f7.monoM (by decide) hwc (List.Perm.refl _) rfl
                    have h_c0f8 := h_c0f8.monoM (by decide) hwc (List.Perm.refl _) rfl
                    have h_p1f0 := h_p1f0.monoM (by decide) hwc (List.Perm.refl _) rfl
                    have h_p1f1 := h_p1f1.monoM (by decide) hwc (List.Perm.refl _) rfl
                    have h_p1f2 := h_p1f2.monoM (by decide) hwc (List.Perm.refl _) rfl
                    have hb_e2 := hwc.hbM (cs := [.int .i64 c0.N, .int .i64 c0.S, .int .i64 c0.T, .slice c0f3_b c0f3_n c0f3_c, .slice c0f4_b c0f4_n c0f4_c, .slice c0f5_b c0f5_n c0f5_c, .slice c0f6_b c0f6_n c0f6_c, .slice c0f7_b c0f7_n c0f7_c, .slice c0f8_b c0f8_n c0f8_c]) (List.Perm.refl _) rfl mm3
                    have hb_e30 := hwc.hbM (cs := [.int .i64 x26]) (List.Perm.refl _) rfl mm2
                    have hb_e4 := hwc.hbM (cs := [.slice p1f0_b p1f0_n p1f0_c, .slice p1f1_b p1f1_n p1f1_c, .slice p1f2_b p1f2_n p1f2_c]) (List.Perm.refl _) rfl mm4
                    have H : m_pre_Right_y2 c0 p1 x26 y40 = some r_2 := hy
                    unfold m_pre_Right_y2 at H
                    refine T.block ?_
                    refine T.seq ?_
                    obtain ⟨g41, H⟩ := gd_some H
                    rcases ite_some H with ⟨g42, H⟩ | ⟨g42, H⟩
                    ·
                      obtain ⟨g43, H⟩ := gd_some H
                      obtain ⟨g44, H⟩ := gd_some H
                      obtain ⟨g45, H⟩ := gd_some H
                      obtain ⟨g46, H⟩ := gd_some H
                      refine T.drawS 22 [0, 1, 2, 3, 4, 5, 6, 7, 8, 9, 10, 11, 12, 13, 14, 15, 16, 17, 18, 19, 20, 21] rfl mixed (by kernel_rfl) (by kernel_rfl) rfl (by kernel_rfl) ?_
                      refine TQ.fieldAddr0 rfl rfl rfl rfl TWBS7.f29_0 ?_
                      refine TQ.ldHB hb_e4 rfl rfl rfl rfl rfl TWBS7.s26 ?_
                      refine TQ.move rfl rfl rfl rfl ?_
                      refine TQ.ixR h_p1f0 g41 rfl rfl rfl rfl rfl TWBS7.l26 TWBS7.n2 ?_
                      refine TQ.ldIR h_p1f0 g41 rfl rfl rfl rfl TWBS7.s2 ?_
                      refine TQ.bin rfl rfl rfl rfl rfl rfl ?_
                      refine TQ.move rfl rfl rfl rfl ?_
                      refine TQ.decB (t := 59) (b' := true) rfl (decide_eq_true g42) ?_
                      refine TQ.fieldAddr0 rfl rfl rfl rfl TWBS7.f29_2 ?_
                      refine TQ.ldHB hb_e4 rfl rfl rfl rfl rfl TWBS7.s27 ?_
                      refine TQ.ldHB hb_e30 rfl rfl rfl rfl rfl TWBS7.s3 ?_
                      refine TQ.ixR h_p1f2 g43 rfl rfl rfl rfl rfl TWBS7.l27 TWBS7.n3 ?_
                      refine TQ.ldIR h_p1f2 g43 rfl rfl rfl rfl TWBS7.s3 ?_
                      refine TQ.fieldAddr0 rfl rfl rfl rfl TWBS7.f29_2 ?_
                      refine TQ.ldHB hb_e4 rfl rfl rfl rfl rfl TWBS7.s27 ?_
                      refine TQ.fieldAddr0 rfl rfl rfl rfl TWBS7.f32_4 ?_
                      refine TQ.ldHB hb_e2 rfl rfl rfl rfl rfl TWBS7.s27 ?_
                      refine TQ.move rfl rfl rfl rfl ?_
                      refine TQ.ixR h_c0f4 g44 rfl rfl rfl rfl rfl TWBS7.l27 TWBS7.n3 ?_
                      refine TQ.ldIR h_c0f4 g44 rfl rfl rfl rfl TWBS7.s3 ?_
                      refine TQ.ixR h_p1f2 g45 rfl rfl rfl rfl rfl TWBS7.l27 TWBS7.n3 ?_
                      refine TQ.ldIR h_p1f2 g45 rfl rfl rfl rfl TWBS7.s3 ?_
                      refine TQ.addG g46 rfl rfl rfl rfl rfl ?_
                      refine TQ.tail [22, 23] rfl rfl ?_
                      refine TO.bin rfl rfl rfl rfl rfl rfl ?_
                      refine TO.pickT rfl rfl rfl rfl rfl ?_
                      refine TO.done ?_
                      refine X.seq_normal ?_
                      rcases ite_some H with ⟨g47, H⟩ | ⟨g47, H⟩
                      ·
                        refine T.condPT rfl g47 ?_
                        refine T.seq ?_
                        refine T.regionL (ll := [0]) rfl ?_
                        refine TO.store1n (cs' := [.bool false]) rfl rfl rfl rfl tk0 TWBS7.n4 rfl rfl rfl ?_
                        refine TO.done ?_
                        refine X.seq_normal ?_
                        refine T.trim (AllF.cons (t := 4) rfl AllF.nil) ?_
                        refine T.ret ?_
                        refine X.block_ret ?_
                        exact X.rfRet H rfl ⟨(), rfl⟩ (Pick.cons tk0 Pick.nil)
                      ·
                        refine T.condPF rfl g47 ?_
                        refine T.skip ?_
                        refine X.block_normal ?_
                        exact X.rfNext H ⟨(), rfl⟩ (Pick.cons tk0 Pick.nil)
                    ·
                      refine T.drawS 22 [0, 1, 2, 3, 4, 5, 6, 7, 8, 9, 10, 11, 12, 13, 14, 15, 16, 17, 18, 19, 20, 21] rfl mixed (by kernel_rfl) (by kernel_rfl) rfl (by kernel_rfl) ?_
                      refine TQ.fieldAddr0 rfl rfl rfl rfl TWBS7.f29_0 ?_
                      refine TQ.ldHB hb_e4 rfl rfl rfl rfl rfl TWBS7.s26 ?_
                      refine TQ.move rfl rfl rfl rfl ?_
                      refine TQ.ixR h_p1f0 g41 rfl rfl rfl rfl rfl TWBS7.l26 TWBS7.n2 ?_
                      refine TQ.ldIR h_p1f0 g41 rfl rfl rfl rfl TWBS7.s2 ?_
                      refine TQ.bin rfl rfl rfl rfl rfl rfl ?_
                      refine TQ.move rfl rfl rfl rfl ?_
                      refine TQ.decB (t := 59) (b' := false) rfl (decide_eq_false g42) ?_
                      refine TQ.shut rfl rfl rfl rfl ?_
                      refine TQ.shut rfl rfl rfl rfl ?_
                      refine TQ.shut rfl rfl rfl rfl ?_
                      refine TQ.shut rfl rfl rfl rfl ?_
                      refine TQ.shut rfl rfl rfl rfl ?_
                      refine TQ.shut rfl rfl rfl rfl ?_
                      refine TQ.shut rfl rfl rfl rfl ?_
                      refine TQ.shut rfl rfl rfl rfl ?_
                      refine TQ.shut rfl rfl rfl rfl ?_
                      refine TQ.shut rfl rfl rfl rfl ?_
                      refine TQ.shut rfl rfl rfl rfl ?_
                      refine TQ.shut rfl rfl rfl rfl ?_
                      refine TQ.shut rfl rfl rfl rfl ?_
                      refine TQ.shut rfl rfl rfl rfl ?_
                      refine TQ.shut rfl rfl rfl rfl ?_
                      refine TQ.tail [22, 23] rfl rfl ?_
                      refine TO.shut rfl rfl rfl rfl ?_
                      refine TO.pickF rfl rfl rfl rfl rfl ?_
                      refine TO.done ?_
                      refine X.seq_normal ?_
                      refine T.condF rfl rfl ?_
                      refine T.skip ?_
                      refine X.block_normal ?_
                      exact X.rfNext H ⟨(), rfl⟩ (Pick.cons tk0 Pick.nil)
                ·
                  rintro _ ht rr_2 _ ⟨u39, rfl⟩
                  subst ht
                  have H : (gd (i64ok (x26 + 1)) <|
  some (.inl (x26 + 1))) = some r_1 := K_2
                  refine X.reheap (H := ((some b5, .cells #[.bool false] 4 (0, 0)) :: (some rr_2, mkO) :: (some b35, .cells #[.int .i64 c0.N, .int .i64 c0.S, .int .i64 c0.T, .slice c0f3_b c0f3_n c0f3_c, .slice c0f4_b c0f4_n c0f4_c, .slice c0f5_b c0f5_n c0f5_c, .slice c0f6_b c0f6_n c0f6_c, .slice c0f7_b c0f7_n c0f7_c, .slice c0f8_b c0f8_n c0f8_c] 32 (0, 0)) :: (some b36, .cells #[.int .i64 x26] 3 (0, 0)) :: (some b29, .cells #[.int .i64 x26] 3 (0, 0)) :: (some b1, .cells #[.int .i64 c0.N, .int .i64 c0.S, .int .i64 c0.T, .slice c0f3_b c0f3_n c0f3_c, .slice c0f4_b c0f4_n c0f4_c, .slice c0f5_b c0f5_n c0f5_c, .slice c0f6_b c0f6_n c0f6_c, .slice c0f7_b c0f7_n c0f7_c, .slice c0f8_b c0f8_n c0f8_c] 32 (0, 0)) :: (some b3, .cells #[.slice p1f0_b p1f0_n p1f0_c, .slice p1f1_b p1f1_n p1f1_c, .slice p1f2_b p1f2_n p1f2_c] 29 (0, 0)) :: markH ms27)) rfl ?_
                  refine X.block_normal ?_
                  refine X.block_normal ?_
                  refine X.seq_normal ?_
                  obtain ⟨g48, H⟩ := gd_some H
                  refine T.regionL (ll := [0, 1]) rfl ?_
                  refine TO.addG g48 rfl rfl rfl rfl rfl ?_
                  refine TO.move rfl rfl rfl rfl ?_
                  refine TO.done ?_
                  have H := loop_next H C_1
                  exact X.againEM3 n_1 (x26 + 1) (rr_2 :: ms27) H (Nat.lt_succ_self _) rfl rfl rfl rfl (AllF.cons rfl (AllF.cons rfl (AllF.cons rfl (AllF.cons rfl (AllF.cons rfl AllF.nil))))) (Pick.cons tk5 (Pick.cons tk5 (Pick.cons tk0 (Pick.cons tk0 (Pick.skip (Pick.skip (Pick.skip (Pick.refl _))))))))
                ·
                  rintro _ ht rr_2 _ ⟨u39, rfl⟩
                  subst ht
                  have H : (some (.inr (.inl false))) = some r_1 := K_2
                  refine T.reheap (H := ((some b5, .cells #[.bool false] 4 (0, 0)) :: (some rr_2, mkO) :: (some b35, .cells #[.int .i64 c0.N, .int .i64 c0.S, .int .i64 c0.T, .slice c0f3_b c0f3_n c0f3_c, .slice c0f4_b c0f4_n c0f4_c, .slice c0f5_b c0f5_n c0f5_c, .slice c0f6_b c0f6_n c0f6_c, .slice c0f7_b c0f7_n c0f7_c, .slice c0f8_b c0f8_n c0f8_c] 32 (0, 0)) :: (some b36, .cells #[.int .i64 x26] 3 (0, 0)) :: (some b29, .cells #[.int .i64 x26] 3 (0, 0)) :: (some b1, .cells #[.int .i64 c0.N, .int .i64 c0.S, .int .i64 c0.T, .slice c0f3_b c0f3_n c0f3_c, .slice c0f4_b c0f4_n c0f4_c, .slice c0f5_b c0f5_n c0f5_c, .slice c0f6_b c0f6_n c0f6_c, .slice c0f7_b c0f7_n c0f7_c, .slice c0f8_b c0f8_n c0f8_c] 32 (0, 0)) :: (some b3, .cells #[.slice p1f0_b p1f0_n p1f0_c, .slice p1f1_b p1f1_n p1f1_c, .slice p1f2_b p1f2_n p1f2_c] 29 (0, 0)) :: markH ms27)) rfl ?_
                  refine T.ret ?_
                  refine X.block_ret ?_
                  refine X.block_ret ?_
                  refine X.then_ret ?_
                  have H := loop_exitE H C_1 ▸ K_1
                  refine X.then_ret ?_
                  refine X.block_ret ?_
                  refine X.then_ret ?_
                  obtain rfl := ret1 H
                  exact X.retM1 (rr_2 :: ms27) rfl rfl rfl rfl rfl (Pick.cons tk1 (Pick.tailM (Es := [_, _, _, _, _, _]) (Pick.refl _))) (Res.cell1 rfl TWBS7.s4 mm0 rfl) Pick.nil ⟨rfl, rfl⟩
            ·
              refine T.regionL (ll := [0, 1, 2, 3, 4, 5, 6, 7, 8, 9, 10, 11]) rfl ?_
              refine TO.load1 rfl rfl rfl rfl TWBS7.s3 mm0 rfl ?_
              refine TO.fieldAddr0 rfl rfl rfl rfl TWBS7.f32_1 ?_
              refine TO.load1 rfl rfl rfl rfl TWBS7.s3 mm1 rfl ?_
              refine TO.bin rfl rfl rfl rfl rfl rfl ?_
              refine TO.move rfl rfl rfl rfl ?_
              refine TO.decB (t := 41) (b' := false) rfl (decide_eq_false g31) ?_
              refine TO.shut rfl rfl rfl rfl ?_
              refine TO.shut rfl rfl rfl rfl ?_
              refine TO.shut rfl rfl rfl rfl ?_
              refine TO.shut rfl rfl rfl rfl ?_
              refine TO.shut rfl rfl rfl rfl ?_
              refine TO.shut rfl rfl rfl rfl ?_
              refine TO.pickF rfl rfl rfl rfl rfl ?_
              refine TO.done ?_
              refine X.seq_normal ?_
              refine T.condF rfl rfl ?_
              refine T.skip ?_
              refine X.seq_normal ?_
              refine T.trim (AllF.cons (t := 2) rfl (AllF.cons (t := 3) rfl (AllF.cons (t := 4) rfl (AllF.cons (t := 33) rfl (AllF.cons (t := 34) rfl (AllF.cons (t := 7) rfl (AllF.cons (t := 42) rfl (AllF.cons (t := 43) rfl (AllF.cons (t := 44) rfl (AllF.cons (t := 45) rfl (AllF.cons (t := 46) rfl (AllF.cons (t := 47) rfl AllF.nil)))))))))))) ?_
              refine T.seq ?_
              obtain ⟨⟨⟩, e49, H⟩ := bd_some H
              refine T.regionL (ll := [0, 1, 2]) rfl ?_
              refine TO.loadA rfl rfl rfl rfl TWBS7.a32 mm1 rfl ?_
              refine TO.load1 rfl rfl rfl rfl TWBS7.s3 mm0 rfl ?_
              refine TO.callX TWBS7.c59 rfl rfl rfl rfl (fun wc hwc => w_pre_arcs (c0 := c0) (u1 := x26) wc (h_c0f3.mono hwc) (h_c0f4.mono hwc) (h_c0f5.mono hwc) (h_c0f6.mono hwc) (h_c0f7.mono hwc) (h_c0f8.mono hwc) e49) ?_
              rintro _ _ ⟨b50, b51, rfl, rfl⟩
              refine TO.done ?_
              refine X.seq_normal ?_
              refine T.block ?_
              obtain ⟨t_3, e_3, K_3⟩ := bd_some H
              refine T.rangeFunc (S := (Unit)) (X := (Unit)) (V := Int) rfl TWBS7.c97 rfl rfl (fun v => [.int .i64 v]) (fun _ => rfl) (fun s v => m_pre_Right_y3 c0 p1 x26 v) (fun t Hq => match t with | .inl _ => ∃ (u54 : Unit), Hq = [(some b5, .cells #[.bool false] 4 (0, 0))] | .inr _ => ∃ (u54 : Unit), Hq = [(some b5, .cells #[.bool false] 4 (0, 0))]) (fun _ => .ret) () t_3 [(some b5, .cells #[.bool false] 4 (0, 0))] ((some b50, .cells #[.int .i64 c0.N, .int .i64 c0.S, .int .i64 c0.T, .slice c0f3_b c0f3_n c0f3_c, .slice c0f4_b c0f4_n c0f4_c, .slice c0f5_b c0f5_n c0f5_c, .slice c0f6_b c0f6_n c0f6_c, .slice c0f7_b c0f7_n c0f7_c, .slice c0f8_b c0f8_n c0f8_c] 32 (0, 0)) :: (some b51, .cells #[.int .i64 x26] 3 (0, 0)) :: (some b29, .cells #[.int .i64 x26] 3 (0, 0)) :: (some b1, .cells #[.int .i64 c0.N, .int .i64 c0.S, .int .i64 c0.T, .slice c0f3_b c0f3_n c0f3_c, .slice c0f4_b c0f4_n c0f4_c, .slice c0f5_b c0f5_n c0f5_c, .slice c0f6_b c0f6_n c0f6_c, .slice c0f7_b c0f7_n c0f7_c, .slice c0f8_b c0f8_n c0f8_c] 32 (0, 0)) :: (some b3, .cells #[.slice p1f0_b p1f0_n p1f0_c, .slice p1f1_b p1f1_n p1f1_c, .slice p1f2_b p1f2_n p1f2_c] 29 (0, 0)) :: markH ms27) ⟨(), rfl⟩ (Pick.cons tk5 (Pick.refl _)) ?_ ?_ ?_ ?_
              · intro lp wc J_ H0_ hJ_ hin_ hY_ lo_ hwc hH0
                subst hH0
                exact w_pre_arcs_1 (yy_ := (fun s v => m_pre_Right_y3 c0 p1 x26 v)) (c1 := c0) (c2 := x26) (tt_ := .inl ()) (J_ := J_) wc hin_ hJ_ hY_ (h_c0f3.monoM (by decide) hwc (List.Perm.refl _) rfl) (h_c0f4.monoM (by decide) hwc (List.Perm.refl _) rfl) (h_c0f5.monoM (by decide) hwc (List.Perm.refl _) rfl) (h_c0f6.monoM (by decide) hwc (List.Perm.refl _) rfl) (h_c0f7.monoM (by decide) hwc (List.Perm.refl _) rfl) (h_c0f8.monoM (by decide) hwc (List.Perm.refl _) rfl) (hwc.hbM (cs := [.int .i64 c0.N, .int .i64 c0.S, .int .i64 c0.T, .slice c0f3_b c0f3_n c0f3_c, .slice c0f4_b c0f4_n c0f4_c, .slice c0f5_b c0f5_n c0f5_c, .slice c0f6_b c0f6_n c0f6_c, .slice c0f7_b c0f7_n c0f7_c, .slice c0f8_b c0f8_n c0f8_c]) (List.Perm.refl _) rfl mm0) (hwc.hbM (cs := [.int .i64 x26]) (List.Perm.refl _) rfl mm1) e_3
              · rintro lp w_1 _ y55 r_3 _ hy ⟨u54, rfl⟩ hs_1 ho_1
                refine ⟨[(2, .pointer (some ⟨b1, 0, none⟩)), (3, .pointer (some ⟨b3, 0, none⟩)), (4, .pointer (some ⟨b5, 0, none⟩)), (7, .pointer (some ⟨b29, 0, none⟩)), (33, .int .i64 c0.N), (34, .int .i64 x26), (52, .int .i64 y55), (8, .int .i64 y55)], [(some b5, .cells #[.bool false] 4 (0, 0))], ?_, ?_⟩
                ·
                  refine T.regionL (ll := [0]) rfl ?_
                  refine TO.assign rfl rfl rfl rfl ?_
                  refine TO.done ?_
                  exact X.asg (AllF.cons rfl (AllF.cons rfl (AllF.cons rfl (AllF.cons rfl (AllF.cons rfl (AllF.cons rfl (AllF.cons rfl (AllF.cons rfl AllF.nil)))))))) (Pick.refl _)
                · intro w_2 hs_2 hwc
                  have h_c0f3 := h_c0f3.monoM (by decide) hwc (List.Perm.refl _) rfl
                  have h_c0f4 := h_c0f4.monoM (by decide) hwc (List.Perm.refl _) rfl
                  have h_c0f5 := h_c0f5.monoM (by decide) hwc (List.Perm.refl _) rfl
                  have h_c0f6 := h_c0f6.monoM (by decide) hwc (List.Perm.refl _) rfl
                  have h_c0f7 := h_c0f7.monoM (by decide) hwc (List.Perm.refl _) rfl
                  have h_c0f8 := h_c0f8.monoM (by decide) hwc (List.Perm.refl _) rfl
                  have h_p1f0 := h_p1f0.monoM (by decide) hwc (List.Perm.refl _) rfl
                  have h_p1f1 := h_p1f1.monoM (by decide) hwc (List.Perm.refl _) rfl
                  have h_p1f2 := h_p1f2.monoM (by decide) hwc (List.Perm.refl _) rfl
                  have hb_e2 := hwc.hbM (cs := [.int .i64 c0.N, .int .i64 c0.S, .int .i64 c0.T, .slice c0f3_b c0f3_n c0f3_c, .slice c0f4_b c0f4_n c0f4_c, .slice c0f5_b c0f5_n c0f5_c, .slice c0f6_b c0f6_n c0f6_c, .slice c0f7_b c0f7_n c0f7_c, .slice c0f8_b c0f8_n c0f8_c]) (List.Perm.refl _) rfl mm3
                  have hb_e30 := hwc.hbM (cs := [.int .i64 x26]) (List.Perm.refl _) rfl mm2
                  have hb_e4 := hwc.hbM (cs := [.slice p1f0_b p1f0_n p1f0_c, .slice p1f1_b p1f1_n p1f1_c, .slice p1f2_b p1f2_n p1f2_c]) (List.Perm.refl _) rfl mm4
                  have H : m_pre_Right_y3 c0 p1 x26 y55 = some r_3 := hy
                  unfold m_pre_Right_y3 at H
                  refine T.block ?_
                  refine T.seq ?_
                  obtain ⟨g56, H⟩ := gd_some H
                  rcases ite_some H with ⟨g57, H⟩ | ⟨g57, H⟩
                  ·
                    obtain ⟨g58, H⟩ := gd_some H
                    obtain ⟨g59, H⟩ := gd_some H
                    obtain ⟨g60, H⟩ := gd_some H
                    obtain ⟨g61, H⟩ := gd_some H
                    refine T.drawS 22 [0, 1, 2, 3, 4, 5, 6, 7, 8, 9, 10, 11, 12, 13, 14, 15, 16, 17, 18, 19, 20, 21] rfl mixed (by kernel_rfl) (by kernel_rfl) rfl (by kernel_rfl) ?_
                    refine TQ.fieldAddr0 rfl rfl rfl rfl TWBS7.f29_0 ?_
                    refine TQ.ldHB hb_e4 rfl rfl rfl rfl rfl TWBS7.s26 ?_
                    refine TQ.move rfl rfl rfl rfl ?_
                    refine TQ.ixR h_p1f0 g56 rfl rfl rfl rfl rfl TWBS7.l26 TWBS7.n2 ?_
                    refine TQ.ldIR h_p1f0 g56 rfl rfl rfl rfl TWBS7.s2 ?_
                    refine TQ.bin rfl rfl rfl rfl rfl rfl ?_
                    refine TQ.move rfl rfl rfl rfl ?_
                    refine TQ.decB (t := 59) (b' := true) rfl (decide_eq_true g57) ?_
                    refine TQ.fieldAddr0 rfl rfl rfl rfl TWBS7.f29_2 ?_
                    refine TQ.ldHB hb_e4 rfl rfl rfl rfl rfl TWBS7.s27 ?_
                    refine TQ.ldHB hb_e30 rfl rfl rfl rfl rfl TWBS7.s3 ?_
                    refine TQ.ixR h_p1f2 g58 rfl rfl rfl rfl rfl TWBS7.l27 TWBS7.n3 ?_
                    refine TQ.ldIR h_p1f2 g58 rfl rfl rfl rfl TWBS7.s3 ?_
                    refine TQ.fieldAddr0 rfl rfl rfl rfl TWBS7.f29_2 ?_
                    refine TQ.ldHB hb_e4 rfl rfl rfl rfl rfl TWBS7.s27 ?_
                    refine TQ.fieldAddr0 rfl rfl rfl rfl TWBS7.f32_4 ?_
                    refine TQ.ldHB hb_e2 rfl rfl rfl rfl rfl TWBS7.s27 ?_
                    refine TQ.move rfl rfl rfl rfl ?_
                    refine TQ.ixR h_c0f4 g59 rfl rfl rfl rfl rfl TWBS7.l27 TWBS7.n3 ?_
                    refine TQ.ldIR h_c0f4 g59 rfl rfl rfl rfl TWBS7.s3 ?_
                    refine TQ.ixR h_p1f2 g60 rfl rfl rfl rfl rfl TWBS7.l27 TWBS7.n3 ?_
                    refine TQ.ldIR h_p1f2 g60 rfl rfl rfl rfl TWBS7.s3 ?_
                    refine TQ.addG g61 rfl rfl rfl rfl rfl ?_
                    refine TQ.tail [22, 23] rfl rfl ?_
                    refine TO.bin rfl rfl rfl rfl rfl rfl ?_
                    refine TO.pickT rfl rfl rfl rfl rfl ?_
                    refine TO.done ?_
                    refine X.seq_normal ?_
                    rcases ite_some H with ⟨g62, H⟩ | ⟨g62, H⟩
                    ·
                      refine T.condPT rfl g62 ?_
                      refine T.seq ?_
                      refine T.regionL (ll := [0]) rfl ?_
                      refine TO.store1n (cs' := [.bool false]) rfl rfl rfl rfl tk0 TWBS7.n4 rfl rfl rfl ?_
                      refine TO.done ?_
                      refine X.seq_normal ?_
                      refine T.trim (AllF.cons (t := 4) rfl AllF.nil) ?_
                      refine T.ret ?_
                      refine X.block_ret ?_
                      exact X.rfRet H rfl ⟨(), rfl⟩ (Pick.cons tk0 Pick.nil)
                    ·
                      refine T.condPF rfl g62 ?_
                      refine T.skip ?_
                      refine X.block_normal ?_
                      exact X.rfNext H ⟨(), rfl⟩ (Pick.cons tk0 Pick.nil)
                  ·
                    refine T.drawS 22 [0, 1, 2, 3, 4, 5, 6, 7, 8, 9, 10, 11, 12, 13, 14, 15, 16, 17, 18, 19, 20, 21] rfl mixed (by kernel_rfl) (by kernel_rfl) rfl (by kernel_rfl) ?_
                    refine TQ.fieldAddr0 rfl rfl rfl rfl TWBS7.f29_0 ?_
                    refine TQ.ldHB hb_e4 rfl rfl rfl rfl rfl TWBS7.s26 ?_
                    refine TQ.move rfl rfl rfl rfl ?_
                    refine TQ.ixR h_p1f0 g56 rfl rfl rfl rfl rfl TWBS7.l26 TWBS7.n2 ?_
                    refine TQ.ldIR h_p1f0 g56 rfl rfl rfl rfl TWBS7.s2 ?_
                    refine TQ.bin rfl rfl rfl rfl rfl rfl ?_
                    refine TQ.move rfl rfl rfl rfl ?_
                    refine TQ.decB (t := 59) (b' := false) rfl (decide_eq_false g57) ?_
                    refine TQ.shut rfl rfl rfl rfl ?_
                    refine TQ.shut rfl rfl rfl rfl ?_
                    refine TQ.shut rfl rfl rfl rfl ?_
                    refine TQ.shut rfl rfl rfl rfl ?_
                    refine TQ.shut rfl rfl rfl rfl ?_
                    refine TQ.shut rfl rfl rfl rfl ?_
                    refine TQ.shut rfl rfl rfl rfl ?_
                    refine TQ.shut rfl rfl rfl rfl ?_
                    refine TQ.shut rfl rfl rfl rfl ?_
                    refine TQ.shut rfl rfl rfl rfl ?_
                    refine TQ.shut rfl rfl rfl rfl ?_
                    refine TQ.shut rfl rfl rfl rfl ?_
                    refine TQ.shut rfl rfl rfl rfl ?_
                    refine TQ.shut rfl rfl rfl rfl ?_
                    refine TQ.shut rfl rfl rfl rfl ?_
                    refine TQ.tail [22, 23] rfl rfl ?_
                    refine TO.shut rfl rfl rfl rfl ?_
                    refine TO.pickF rfl rfl rfl rfl rfl ?_
                    refine TO.done ?_
                    refine X.seq_normal ?_
                    refine T.condF rfl rfl ?_
                    refine T.skip ?_
                    refine X.block_normal ?_
                    exact X.rfNext H ⟨(), rfl⟩ (Pick.cons tk0 Pick.nil)
              ·
                rintro _ ht rr_3 _ ⟨u54, rfl⟩
                subst ht
                have H : (gd (i64ok (x26 + 1)) <|
  some (.inl (x26 + 1))) = some r_1 := K_3
                refine X.reheap (H := ((some b5, .cells #[.bool false] 4 (0, 0)) :: (some rr_3, mkO) :: (some b50, .cells #[.int .i64 c0.N, .int .i64 c0.S, .int .i64 c0.T, .slice c0f3_b c0f3_n c0f3_c, .slice c0f4_b c0f4_n c0f4_c, .slice c0f5_b c0f5_n c0f5_c, .slice c0f6_b c0f6_n c0f6_c, .slice c0f7_b c0f7_n c0f7_c, .slice c0f8_b c0f8_n c0f8_c] 32 (0, 0)) :: (some b51, .cells #[.int .i64 x26] 3 (0, 0)) :: (some b29, .cells #[.int .i64 x26] 3 (0, 0)) :: (some b1, .cells #[.int .i64 c0.N, .int .i64 c0.S, .int .i64 c0.T, .slice c0f3_b c0f3_n c0f3_c, .slice c0f4_b c0f4_n c0f4_c, .slice c0f5_b c0f5_n c0f5_c, .slice c0f6_b c0f6_n c0f6_c, .slice c0f7_b c0f7_n c0f7_c, .slice c0f8_b c0f8_n c0f8_c] 32 (0, 0)) :: (some b3, .cells #[.slice p1f0_b p1f0_n p1f0_c, .slice p1f1_b p1f1_n p1f1_c, .slice p1f2_b p1f2_n p1f2_c] 29 (0, 0)) :: markH ms27)) rfl ?_
                refine X.block_normal ?_
                refine X.block_normal ?_
                refine X.seq_normal ?_
                obtain ⟨g63, H⟩ := gd_some H
                refine T.regionL (ll := [0, 1]) rfl ?_
                refine TO.addG g63 rfl rfl rfl rfl rfl ?_
                refine TO.move rfl rfl rfl rfl ?_
                refine TO.done ?_
                have H := loop_next H C_1
                exact X.againEM3 n_1 (x26 + 1) (rr_3 :: ms27) H (Nat.lt_succ_self _) rfl rfl rfl rfl (AllF.cons rfl (AllF.cons rfl (AllF.cons rfl (AllF.cons rfl (AllF.cons rfl AllF.nil))))) (Pick.cons tk5 (Pick.cons tk5 (Pick.cons tk0 (Pick.cons tk0 (Pick.skip (Pick.skip (Pick.skip (Pick.refl _))))))))
              ·
                rintro _ ht rr_3 _ ⟨u54, rfl⟩
                subst ht
                have H : (some (.inr (.inl false))) = some r_1 := K_3
                refine T.reheap (H := ((some b5, .cells #[.bool false] 4 (0, 0)) :: (some rr_3, mkO) :: (some b50, .cells #[.int .i64 c0.N, .int .i64 c0.S, .int .i64 c0.T, .slice c0f3_b c0f3_n c0f3_c, .slice c0f4_b c0f4_n c0f4_c, .slice c0f5_b c0f5_n c0f5_c, .slice c0f6_b c0f6_n c0f6_c, .slice c0f7_b c0f7_n c0f7_c, .slice c0f8_b c0f8_n c0f8_c] 32 (0, 0)) :: (some b51, .cells #[.int .i64 x26] 3 (0, 0)) :: (some b29, .cells #[.int .i64 x26] 3 (0, 0)) :: (some b1, .cells #[.int .i64 c0.N, .int .i64 c0.S, .int .i64 c0.T, .slice c0f3_b c0f3_n c0f3_c, .slice c0f4_b c0f4_n c0f4_c, .slice c0f5_b c0f5_n c0f5_c, .slice c0f6_b c0f6_n c0f6_c, .slice c0f7_b c0f7_n c0f7_c, .slice c0f8_b c0f8_n c0f8_c] 32 (0, 0)) :: (some b3, .cells #[.slice p1f0_b p1f0_n p1f0_c, .slice p1f1_b p1f1_n p1f1_c, .slice p1f2_b p1f2_n p1f2_c] 29 (0, 0)) :: markH ms27)) rfl ?_
                refine T.ret ?_
                refine X.block_ret ?_
                refine X.block_ret ?_
                refine X.then_ret ?_
                have H := loop_exitE H C_1 ▸ K_1
                refine X.then_ret ?_
                refine X.block_ret ?_
                refine X.then_ret ?_
                obtain rfl := ret1 H
                exact X.retM1 (rr_3 :: ms27) rfl rfl rfl rfl rfl (Pick.cons tk1 (Pick.tailM (Es := [_, _, _, _, _, _]) (Pick.refl _))) (Res.cell1 rfl TWBS7.s4 mm0 rfl) Pick.nil ⟨rfl, rfl⟩
          ·
            refine T.condPF rfl g28 ?_
            refine T.exit ?_
            refine X.then_exit ?_
            have H := loop_exitE H C_1 ▸ K_1
            refine X.then_exit ?_
            refine X.block_here ?_
            exact X.metEM1 (ms27) H rfl rfl rfl rfl (AllF.cons rfl AllF.nil) (Pick.cons tk2 (Pick.skip (Pick.skip (Pick.refl _))))
        · rintro ms64 H
          unfold m_pre_Right_j4 at H
          refine T.seq ?_
          refine T.regionL (ll := [0]) rfl ?_
          refine TO.store1n (cs' := [.bool true]) rfl rfl rfl rfl tk0 TWBS7.n4 rfl rfl rfl ?_
          refine TO.done ?_
          refine X.seq_normal ?_
          refine T.ret ?_
          obtain rfl := ret1 H
          exact X.retM1 (ms64) rfl rfl rfl rfl rfl (Pick.tailM (Es := [_]) (Pick.refl _)) (Res.cell1 rfl TWBS7.s4 mm0 rfl) Pick.nil ⟨rfl, rfl⟩
/-- acequia/pre.active -/
theorem w_pre_active {c0 : Csr} {p1 : Pre} {u2 : Int} {c0f3_b : Option Addr} {c0f3_n : Nat} {c0f3_c : Nat} {c0f4_b : Option Addr} {c0f4_n : Nat} {c0f4_c : Nat} {c0f5_b : Option Addr} {c0f5_n : Nat} {c0f5_c : Nat} {c0f6_b : Option Addr} {c0f6_n : Nat} {c0f6_c : Nat} {c0f7_b : Option Addr} {c0f7_n : Nat} {c0f7_c : Nat} {c0f8_b : Option Addr} {c0f8_n : Nat} {c0f8_c : Nat} {p1f0_b : Option Addr} {p1f0_n : Nat} {p1f0_c : Nat} {p1f1_b : Option Addr} {p1f1_n : Nat} {p1f1_c : Nat} {p1f2_b : Option Addr} {p1f2_n : Nat} {p1f2_c : Nat} (w : World) (h_c0f3 : RS w [] (intC .i64) 1 c0f3_b c0f3_n c0f3_c c0.First) (h_c0f4 : RS w [] (intC .i64) 1 c0f4_b c0f4_n c0f4_c c0.Head) (h_c0f5 : RS w [] (intC .i64) 1 c0f5_b c0f5_n c0f5_c c0.Rev) (h_c0f6 : RS w [] (intC .i64) 1 c0f6_b c0f6_n c0f6_c c0.Cap) (h_c0f7 : RS w [] (intC .i64) 1 c0f7_b c0f7_n c0f7_c c0.Arc) (h_c0f8 : RS w [] boolC 1 c0f8_b c0f8_n c0f8_c c0.Back) (h_p1f0 : RS w [] (intC .i64) 1 p1f0_b p1f0_n p1f0_c p1.Res) (h_p1f1 : RS w [] (intC .i64) 1 p1f1_b p1f1_n p1f1_c p1.Ex) (h_p1f2 : RS w [] (intC .i64) 1 p1f2_b p1f2_n p1f2_c p1.H) {r0 : Bool} (H : m_pre_active c0 p1 u2 = some r0) : Fnc Try.prog 66 #[.agg #[.int .i64 c0.N, .int .i64 c0.S, .int .i64 c0.T, .slice c0f3_b c0f3_n c0f3_c, .slice c0f4_b c0f4_n c0f4_c, .slice c0f5_b c0f5_n c0f5_c, .slice c0f6_b c0f6_n c0f6_c, .slice c0f7_b c0f7_n c0f7_c, .slice c0f8_b c0f8_n c0f8_c], .agg #[.slice p1f0_b p1f0_n p1f0_c, .slice p1f1_b p1f1_n p1f1_c, .slice p1f2_b p1f2_n p1f2_c], .int .i64 u2] w [] (fun v N => v = .bool r0 ∧ N = []) := by
  unfold m_pre_active at H
  refine Fnc.enter (vs := [.agg #[.int .i64 c0.N, .int .i64 c0.S, .int .i64 c0.T, .slice c0f3_b c0f3_n c0f3_c, .slice c0f4_b c0f4_n c0f4_c, .slice c0f5_b c0f5_n c0f5_c, .slice c0f6_b c0f6_n c0f6_c, .slice c0f7_b c0f7_n c0f7_c, .slice c0f8_b c0f8_n c0f8_c], .agg #[.slice p1f0_b p1f0_n p1f0_c, .slice p1f1_b p1f1_n p1f1_c, .slice p1f2_b p1f2_n p1f2_c], .int .i64 u2]) Try.func66 rfl rfl (Inv.refl w) ?_
  refine T.seq ?_
  refine T.regionL (ll := [0, 1, 2]) rfl ?_
  refine TO.boxA rfl rfl rfl rfl ?_; intro b1
  refine TO.boxA rfl rfl rfl rfl ?_; intro b3
  refine TO.assign rfl rfl rfl rfl ?_
  refine TO.done ?_
  refine X.seq_normal ?_
  refine T.seq ?_
  rcases ite_some H with ⟨g5, H⟩ | ⟨g5, H⟩
  ·
    rcases ite_some H with ⟨g6, H⟩ | ⟨g6, H⟩
    ·
      obtain ⟨g7, H⟩ := gd_some H
      refine T.regionL (ll := [0, 1, 2, 3, 4, 5, 6, 7, 8, 9, 10, 11, 12, 13, 14, 15, 16, 17, 18]) rfl ?_
      refine TO.move rfl rfl rfl rfl ?_
      refine TO.fieldAddr0 rfl rfl rfl rfl TWBS7.f32_1 ?_
      refine TO.load1 rfl rfl rfl rfl TWBS7.s3 mm1 rfl ?_
      refine TO.bin rfl rfl rfl rfl rfl rfl ?_
      refine TO.move rfl rfl rfl rfl ?_
      refine TO.decB (t := 11) (b' := true) rfl (decide_eq_true g5) ?_
      refine TO.move rfl rfl rfl rfl ?_
      refine TO.fieldAddr0 rfl rfl rfl rfl TWBS7.f32_2 ?_
      refine TO.load1 rfl rfl rfl rfl TWBS7.s3 mm1 rfl ?_
      refine TO.bin rfl rfl rfl rfl rfl rfl ?_
      refine TO.pickT rfl rfl rfl rfl rfl ?_
      refine TO.move rfl rfl rfl rfl ?_
      refine TO.decB (t := 17) (b' := true) rfl (decide_eq_true g6) ?_
      refine TO.fieldAddr0 rfl rfl rfl rfl TWBS7.f29_1 ?_
      refine TO.load1 rfl rfl rfl rfl TWBS7.s26 mm0 rfl ?_
      refine TO.move rfl rfl rfl rfl ?_
      refine TO.ixR h_p1f1 g7 rfl rfl rfl rfl rfl TWBS7.l26 TWBS7.n2 ?_
      refine TO.ldIR h_p1f1 g7 rfl rfl rfl rfl TWBS7.s2 ?_
      refine TO.bin rfl rfl rfl rfl rfl rfl ?_
      refine TO.pickT rfl rfl rfl rfl rfl ?_
      refine TO.assign rfl rfl rfl rfl ?_
      refine TO.done ?_
      refine X.seq_normal ?_
      refine T.trim (AllF.cons (t := 6) rfl AllF.nil) ?_
      refine T.ret ?_
      obtain rfl := ret1 H
      exact X.ret1 rfl rfl rfl rfl (Res.tmp rfl) Pick.nil ⟨rfl, rfl⟩
    ·
      refine T.regionL (ll := [0, 1, 2, 3, 4, 5, 6, 7, 8, 9, 10, 11, 12, 13, 14, 15, 16, 17, 18]) rfl ?_
      refine TO.move rfl rfl rfl rfl ?_
      refine TO.fieldAddr0 rfl rfl rfl rfl TWBS7.f32_1 ?_
      refine TO.load1 rfl rfl rfl rfl TWBS7.s3 mm1 rfl ?_
      refine TO.bin rfl rfl rfl rfl rfl rfl ?_
      refine TO.move rfl rfl rfl rfl ?_
      refine TO.decB (t := 11) (b' := true) rfl (decide_eq_true g5) ?_
      refine TO.move rfl rfl rfl rfl ?_
      refine TO.fieldAddr0 rfl rfl rfl rfl TWBS7.f32_2 ?_
      refine TO.load1 rfl rfl rfl rfl TWBS7.s3 mm1 rfl ?_
      refine TO.bin rfl rfl rfl rfl rfl rfl ?_
      refine TO.pickT rfl rfl rfl rfl rfl ?_
      refine TO.move rfl rfl rfl rfl ?_
      refine TO.decB (t := 17) (b' := false) rfl (decide_eq_false g6) ?_
      refine TO.shut rfl rfl rfl rfl ?_
      refine TO.shut rfl rfl rfl rfl ?_
      refine TO.shut rfl rfl rfl rfl ?_
      refine TO.shut rfl rfl rfl rfl ?_
      refine TO.shut rfl rfl rfl rfl ?_
      refine TO.shut rfl rfl rfl rfl ?_
      refine TO.pickF rfl rfl rfl rfl rfl ?_
      refine TO.assign rfl rfl rfl rfl ?_
      refine TO.done ?_
      refine X.seq_normal ?_
      refine T.trim (AllF.cons (t := 6) rfl AllF.nil) ?_
      refine T.ret ?_
      obtain rfl := ret1 H
      exact X.ret1 rfl rfl rfl rfl (Res.tmp rfl) Pick.nil ⟨rfl, rfl⟩
  ·
    refine T.regionL (ll := [0, 1, 2, 3, 4, 5, 6, 7, 8, 9, 10, 11, 12, 13, 14, 15, 16, 17, 18]) rfl ?_
    refine TO.move rfl rfl rfl rfl ?_
    refine TO.fieldAddr0 rfl rfl rfl rfl TWBS7.f32_1 ?_
    refine TO.load1 rfl rfl rfl rfl TWBS7.s3 mm1 rfl ?_
    refine TO.bin rfl rfl rfl rfl rfl rfl ?_
    refine TO.move rfl rfl rfl rfl ?_
    refine TO.decB (t := 11) (b' := false) rfl (decide_eq_false g5) ?_
    refine TO.shut rfl rfl rfl rfl ?_
    refine TO.shut rfl rfl rfl rfl ?_
    refine TO.shut rfl rfl rfl rfl ?_
    refine TO.shut rfl rfl rfl rfl ?_
    refine TO.pickF rfl rfl rfl rfl rfl ?_
    refine TO.move rfl rfl rfl rfl ?_
    refine TO.shut rfl rfl rfl rfl ?_
    refine TO.shut rfl rfl rfl rfl ?_
    refine TO.shut rfl rfl rfl rfl ?_
    refine TO.shut rfl rfl rfl rfl ?_
    refine TO.shut rfl rfl rfl rfl ?_
    refine TO.shut rfl rfl rfl rfl ?_
    refine TO.pickF rfl rfl rfl rfl rfl ?_
    refine TO.assign rfl rfl rfl rfl ?_
    refine TO.done ?_
    refine X.seq_normal ?_
    refine T.trim (AllF.cons (t := 6) rfl AllF.nil) ?_
    refine T.ret ?_
    obtain rfl := ret1 H
    exact X.ret1 rfl rfl rfl rfl (Res.tmp rfl) Pick.nil ⟨rfl, rfl⟩
/-- acequia/pre.Active$1 -/
theorem w_pre_Active_1 {u0 : Int} {c1 : Csr} {c2 : Pre} {c1_k : Nat} {c1f3_b : Option Addr} {c1f3_n : Nat} {c1f3_c : Nat} {c1f4_b : Option Addr} {c1f4_n : Nat} {c1f4_c : Nat} {c1f5_b : Option Addr} {c1f5_n : Nat} {c1f5_c : Nat} {c1f6_b : Option Addr} {c1f6_n : Nat} {c1f6_c : Nat} {c1f7_b : Option Addr} {c1f7_n : Nat} {c1f7_c : Nat} {c1f8_b : Option Addr} {c1f8_n : Nat} {c1f8_c : Nat} {c2_k : Nat} {c2f0_b : Option Addr} {c2f0_n : Nat} {c2f0_c : Nat} {c2f1_b : Option Addr} {c2f1_n : Nat} {c2f1_c : Nat} {c2f2_b : Option Addr} {c2f2_n : Nat} {c2f2_c : Nat} (w : World) (h_c1f3 : RS w [] (intC .i64) 1 c1f3_b c1f3_n c1f3_c c1.First) (h_c1f4 : RS w [] (intC .i64) 1 c1f4_b c1f4_n c1f4_c c1.Head) (h_c1f5 : RS w [] (intC .i64) 1 c1f5_b c1f5_n c1f5_c c1.Rev) (h_c1f6 : RS w [] (intC .i64) 1 c1f6_b c1f6_n c1f6_c c1.Cap) (h_c1f7 : RS w [] (intC .i64) 1 c1f7_b c1f7_n c1f7_c c1.Arc) (h_c1f8 : RS w [] boolC 1 c1f8_b c1f8_n c1f8_c c1.Back) (h_c1_k : HB w [] c1_k [.int .i64 c1.N, .int .i64 c1.S, .int .i64 c1.T, .slice c1f3_b c1f3_n c1f3_c, .slice c1f4_b c1f4_n c1f4_c, .slice c1f5_b c1f5_n c1f5_c, .slice c1f6_b c1f6_n c1f6_c, .slice c1f7_b c1f7_n c1f7_c, .slice c1f8_b c1f8_n c1f8_c]) (h_c2f0 : RS w [] (intC .i64) 1 c2f0_b c2f0_n c2f0_c c2.Res) (h_c2f1 : RS w [] (intC .i64) 1 c2f1_b c2f1_n c2f1_c c2.Ex) (h_c2f2 : RS w [] (intC .i64) 1 c2f2_b c2f2_n c2f2_c c2.H) (h_c2_k : HB w [] c2_k [.slice c2f0_b c2f0_n c2f0_c, .slice c2f1_b c2f1_n c2f1_c, .slice c2f2_b c2f2_n c2f2_c]) {r0 : Bool} (H : m_pre_Active_1 u0 c1 c2 = some r0) : Fnc Try.prog 72 #[.int .i64 u0, .pointer (some ⟨c1_k, 0, none⟩), .pointer (some ⟨c2_k, 0, none⟩)] w [] (fun v N => v = .bool r0 ∧ N = []) := by
  unfold m_pre_Active_1 at H
  refine Fnc.enter (vs := [.int .i64 u0, .pointer (some ⟨c1_k, 0, none⟩), .pointer (some ⟨c2_k, 0, none⟩)]) Try.func72 rfl rfl (Inv.refl w) ?_
  refine T.seq ?_
  refine T.regionL (ll := [0]) rfl ?_
  refine TO.assign rfl rfl rfl rfl ?_
  refine TO.done ?_
  refine X.seq_normal ?_
  refine T.seq ?_
  obtain ⟨r1, e2, H⟩ := bd_some H
  refine T.regionL (ll := [0, 1, 2, 3, 4]) rfl ?_
  refine TO.ldHBA h_c1_k rfl rfl rfl rfl rfl TWBS7.a32 ?_
  refine TO.ldHBA h_c2_k rfl rfl rfl rfl rfl TWBS7.a29 ?_
  refine TO.move rfl rfl rfl rfl ?_
  refine TO.callX TWBS7.c66 rfl rfl rfl rfl (fun wc hwc => w_pre_active (c0 := c1) (p1 := c2) (u2 := u0) wc (h_c1f3.mono hwc) (h_c1f4.mono hwc) (h_c1f5.mono hwc) (h_c1f6.mono hwc) (h_c1f7.mono hwc) (h_c1f8.mono hwc) (h_c2f0.mono hwc) (h_c2f1.mono hwc) (h_c2f2.mono hwc) e2) ?_
  rintro _ _ ⟨rfl, rfl⟩
  refine TO.assign rfl rfl rfl rfl ?_
  refine TO.done ?_
  refine X.seq_normal ?_
  refine T.ret ?_
  obtain rfl := ret1 H
  exact X.ret1 rfl rfl rfl rfl (Res.tmp rfl) Pick.nil ⟨rfl, rfl⟩
/-- acequia/pre.all -/
theorem w_pre_all_Active_1 {c0 : Csr} {so1_0 : Csr} {so1_1 : Pre} {c0f3_b : Option Addr} {c0f3_n : Nat} {c0f3_c : Nat} {c0f4_b : Option Addr} {c0f4_n : Nat} {c0f4_c : Nat} {c0f5_b : Option Addr} {c0f5_n : Nat} {c0f5_c : Nat} {c0f6_b : Option Addr} {c0f6_n : Nat} {c0f6_c : Nat} {c0f7_b : Option Addr} {c0f7_n : Nat} {c0f7_c : Nat} {c0f8_b : Option Addr} {c0f8_n : Nat} {c0f8_c : Nat} {so1_0_k : Nat} {so1_0f3_b : Option Addr} {so1_0f3_n : Nat} {so1_0f3_c : Nat} {so1_0f4_b : Option Addr} {so1_0f4_n : Nat} {so1_0f4_c : Nat} {so1_0f5_b : Option Addr} {so1_0f5_n : Nat} {so1_0f5_c : Nat} {so1_0f6_b : Option Addr} {so1_0f6_n : Nat} {so1_0f6_c : Nat} {so1_0f7_b : Option Addr} {so1_0f7_n : Nat} {so1_0f7_c : Nat} {so1_0f8_b : Option Addr} {so1_0f8_n : Nat} {so1_0f8_c : Nat} {so1_1_k : Nat} {so1_1f0_b : Option Addr} {so1_1f0_n : Nat} {so1_1f0_c : Nat} {so1_1f1_b : Option Addr} {so1_1f1_n : Nat} {so1_1f1_c : Nat} {so1_1f2_b : Option Addr} {so1_1f2_n : Nat} {so1_1f2_c : Nat} (w : World) (h_c0f3 : RS w [] (intC .i64) 1 c0f3_b c0f3_n c0f3_c c0.First) (h_c0f4 : RS w [] (intC .i64) 1 c0f4_b c0f4_n c0f4_c c0.Head) (h_c0f5 : RS w [] (intC .i64) 1 c0f5_b c0f5_n c0f5_c c0.Rev) (h_c0f6 : RS w [] (intC .i64) 1 c0f6_b c0f6_n c0f6_c c0.Cap) (h_c0f7 : RS w [] (intC .i64) 1 c0f7_b c0f7_n c0f7_c c0.Arc) (h_c0f8 : RS w [] boolC 1 c0f8_b c0f8_n c0f8_c c0.Back) (h_so1_0f3 : RS w [] (intC .i64) 1 so1_0f3_b so1_0f3_n so1_0f3_c so1_0.First) (h_so1_0f4 : RS w [] (intC .i64) 1 so1_0f4_b so1_0f4_n so1_0f4_c so1_0.Head) (h_so1_0f5 : RS w [] (intC .i64) 1 so1_0f5_b so1_0f5_n so1_0f5_c so1_0.Rev) (h_so1_0f6 : RS w [] (intC .i64) 1 so1_0f6_b so1_0f6_n so1_0f6_c so1_0.Cap) (h_so1_0f7 : RS w [] (intC .i64) 1 so1_0f7_b so1_0f7_n so1_0f7_c so1_0.Arc) (h_so1_0f8 : RS w [] boolC 1 so1_0f8_b so1_0f8_n so1_0f8_c so1_0.Back) (h_so1_0_k : HB w [] so1_0_k [.int .i64 so1_0.N, .int .i64 so1_0.S, .int .i64 so1_0.T, .slice so1_0f3_b so1_0f3_n so1_0f3_c, .slice so1_0f4_b so1_0f4_n so1_0f4_c, .slice so1_0f5_b so1_0f5_n so1_0f5_c, .slice so1_0f6_b so1_0f6_n so1_0f6_c, .slice so1_0f7_b so1_0f7_n so1_0f7_c, .slice so1_0f8_b so1_0f8_n so1_0f8_c]) (h_so1_1f0 : RS w [] (intC .i64) 1 so1_1f0_b so1_1f0_n so1_1f0_c so1_1.Res) (h_so1_1f1 : RS w [] (intC .i64) 1 so1_1f1_b so1_1f1_n so1_1f1_c so1_1.Ex) (h_so1_1f2 : RS w [] (intC .i64) 1 so1_1f2_b so1_1f2_n so1_1f2_c so1_1.H) (h_so1_1_k : HB w [] so1_1_k [.slice so1_1f0_b so1_1f0_n so1_1f0_c, .slice so1_1f1_b so1_1f1_n so1_1f1_c, .slice so1_1f2_b so1_1f2_n so1_1f2_c]) {r0 : List Int} (H : m_pre_all_Active_1 c0 so1_0 so1_1 = some r0) : Fnc Try.prog 68 #[.agg #[.int .i64 c0.N, .int .i64 c0.S, .int .i64 c0.T, .slice c0f3_b c0f3_n c0f3_c, .slice c0f4_b c0f4_n c0f4_c, .slice c0f5_b c0f5_n c0f5_c, .slice c0f6_b c0f6_n c0f6_c, .slice c0f7_b c0f7_n c0f7_c, .slice c0f8_b c0f8_n c0f8_c], .func (.func 72) #[] #[.pointer (some ⟨so1_0_k, 0, none⟩), .pointer (some ⟨so1_1_k, 0, none⟩)]] w [] (fun v N => ∃ (ob_0 : Option Nat) (n_0 : Nat) (c_0 : Nat) (j_0 : List Value), v = .slice (sb ob_0) n_0 c_0 ∧ N = [(ob_0, .cells (arr (intC .i64) r0 j_0).toArray 3 (0, 0))] ∧ r0.length = n_0 ∧ n_0 ≤ c_0 ∧ j_0.length = (c_0 - n_0) * 1 ∧ (ob_0 = none → c_0 = 0)) := by
  unfold m_pre_all_Active_1 at H
  refine Fnc.enter (vs := [.agg #[.int .i64 c0.N, .int .i64 c0.S, .int .i64 c0.T, .slice c0f3_b c0f3_n c0f3_c, .slice c0f4_b c0f4_n c0f4_c, .slice c0f5_b c0f5_n c0f5_c, .slice c0f6_b c0f6_n c0f6_c, .slice c0f7_b c0f7_n c0f7_c, .slice c0f8_b c0f8_n c0f8_c], .func (.func 72) #[] #[.pointer (some ⟨so1_0_k, 0, none⟩), .pointer (some ⟨so1_1_k, 0, none⟩)]]) Try.func68 rfl rfl (Inv.refl w) ?_
  refine T.seq ?_
  refine T.regionL (ll := [0, 1]) rfl ?_
  refine TO.boxA rfl rfl rfl rfl ?_; intro b1
  refine TO.assign rfl rfl rfl rfl ?_
  refine TO.done ?_
  refine X.seq_normal ?_
  refine T.seq ?_
  refine T.regionL (ll := [0]) rfl ?_
  refine TO.assign rfl rfl rfl rfl ?_
  refine TO.done ?_
  refine X.seq_normal ?_
  refine T.seq ?_
  refine T.seq ?_
  refine T.regionL (ll := [0, 1, 2]) rfl ?_
  refine TO.fieldAddr0 rfl rfl rfl rfl TWBS7.f32_0 ?_
  refine TO.load1 rfl rfl rfl rfl TWBS7.s3 mm0 rfl ?_
  refine TO.move rfl rfl rfl rfl ?_
  refine TO.done ?_
  refine X.seq_normal ?_
  refine T.meetSE5 (fun (out30 : List Int) (n31 : Nat) (c32 : Nat) (ob33 : Option Nat) (j34 : List Value) => m_pre_all_Active_1_j2 out30 = some r0 ∧ out30.length = n31 ∧ n31 ≤ c32 ∧ j34.length = (c32 - n31) * 1 ∧ (ob33 = none → c32 = 0)) (fun (out30 : List Int) (n31 : Nat) (c32 : Nat) (ob33 : Option Nat) (j34 : List Value) => [(5, .slice (sb ob33) n31 c32)]) (fun (out30 : List Int) (n31 : Nat) (c32 : Nat) (ob33 : Option Nat) (j34 : List Value) => [(ob33, .cells (arr (intC .i64) out30 j34).toArray 3 (0, 0))]) ?_ ?_
  ·
    refine T.block ?_
    obtain ⟨o_1, e_1, K_1⟩ := bd_some H
    refine T.loopE7 (fun (m_1 : Nat) (out3 : List Int) (n4 : Nat) (c5 : Nat) (ob6 : Option Nat) (j7 : List Value) (x13 : Int) => loopM (fun s => m_pre_all_Active_1_s1 c0 so1_0 so1_1 s.1 s.2) m_1 (out3, x13) = some o_1 ∧ out3.length = n4 ∧ n4 ≤ c5 ∧ j7.length = (c5 - n4) * 1 ∧ (ob6 = none → c5 = 0)) (fun (m_1 : Nat) (out3 : List Int) (n4 : Nat) (c5 : Nat) (ob6 : Option Nat) (j7 : List Value) (x13 : Int) => [(1, .func (.func 72) #[] #[.pointer (some ⟨so1_0_k, 0, none⟩), .pointer (some ⟨so1_1_k, 0, none⟩)]), (5, .slice (sb ob6) n4 c5), (8, .int .i64 c0.N), (9, .int .i64 x13)]) (fun (m_1 : Nat) (out3 : List Int) (n4 : Nat) (c5 : Nat) (ob6 : Option Nat) (j7 : List Value) (x13 : Int) => [(ob6, .cells (arr (intC .i64) out3 j7).toArray 3 (0, 0))]) (fun (m_1 : Nat) (out3 : List Int) (n4 : Nat) (c5 : Nat) (ob6 : Option Nat) (j7 : List Value) (x13 : Int) => m_1) FUEL ([]) 0 0 none ([]) 0 ⟨e_1, rfl, (Nat.le_refl _), (zeroJ 0 _), (fun _ => rfl)⟩ (AllF.cons rfl (AllF.cons rfl (AllF.cons rfl (AllF.cons rfl AllF.nil)))) (Pick.none Pick.nil) ?_
    rintro m_1 out3 n4 c5 ob6 j7 x13 ⟨H, hn8, hc9, hj10, hz11⟩
    obtain ⟨n_1, r_1, rfl, H, C_1⟩ := loopM_some H
    have H : m_pre_all_Active_1_s1 c0 so1_0 so1_1 out3 x13 = some r_1 := H
    unfold m_pre_all_Active_1_s1 at H
    refine T.seq ?_
    refine T.regionL (ll := [0]) rfl ?_
    refine TO.bin rfl rfl rfl rfl rfl rfl ?_
    refine TO.done ?_
    refine X.seq_normal ?_
    refine T.seq ?_
    rcases ite_some H with ⟨g14, H⟩ | ⟨g14, H⟩
    ·
      refine T.condPT rfl g14 ?_
      refine T.skip ?_
      refine X.seq_normal ?_
      refine T.seq ?_
      refine T.block ?_
      refine T.seq ?_
      refine T.regionL (ll := [0, 1]) rfl ?_
      refine TO.move rfl rfl rfl rfl ?_
      refine TO.assign rfl rfl rfl rfl ?_
      refine TO.done ?_
      refine X.seq_normal ?_
      refine T.seq ?_
      obtain ⟨r15, e16, H⟩ := bd_some H
      refine T.regionL (ll := [0, 1, 2]) rfl ?_
      refine TO.move rfl rfl rfl rfl ?_
      refine TO.move rfl rfl rfl rfl ?_
      refine TO.callVX TWBS7.c72 rfl rfl rfl rfl rfl (fun wc hwc => w_pre_Active_1 (u0 := x13) (c1 := so1_0) (c2 := so1_1) wc (h_so1_0f3.mono hwc) (h_so1_0f4.mono hwc) (h_so1_0f5.mono hwc) (h_so1_0f6.mono hwc) (h_so1_0f7.mono hwc) (h_so1_0f8.mono hwc) (h_so1_0_k.mono hwc) (h_so1_1f0.mono hwc) (h_so1_1f1.mono hwc) (h_so1_1f2.mono hwc) (h_so1_1_k.mono hwc) e16) ?_
      rintro _ _ ⟨rfl, rfl⟩
      refine TO.done ?_
      refine X.seq_normal ?_
      rcases ite_some H with ⟨g17, H⟩ | ⟨g17, H⟩
      ·
        refine T.condT rfl g17 ?_
        obtain ⟨g20, H⟩ := gd_some H
        refine T.regionL (ll := [0, 1, 2, 3, 4]) rfl ?_
        refine TO.move rfl rfl rfl rfl ?_
        refine TO.move rfl rfl rfl rfl ?_
        refine TO.buildSliceS [.int .i64 0] [0] rfl rfl rfl rfl TWBS7.l27 TWBS7.n3 TWBS7.z3 rfl rfl (by simp only [setAll, setCells, Value.cells, List.toList_toArray, List.getD_cons_zero, List.getD_cons_succ, List.set_cons_zero, List.set_cons_succ]; rfl) (by kernel_rfl) ?_; intro b18
        refine TO.app (f := (intC .i64)) (s := 1) (xs := out3) (ob := ob6) (j := j7) (ys := [x13]) (fun _ => rfl) (fun _ => rfl) TWBS7el27 g20 rfl rfl rfl rfl rfl tk1 hn8 hc9 hj10 hz11 (fun wc hwc => (hwc.rs (f := (intC .i64)) (s := 1) (xs := [x13]) (j := ([])) (fun _ => rfl) mm0 rfl (Nat.le_refl _) someZ)) ?_; intro ob21 c22 j23 hc24 hj25 hz26
        refine TO.assign rfl rfl rfl rfl ?_
        refine TO.done ?_
        refine X.block_normal ?_
        refine X.seq_normal ?_
        refine T.trim (AllF.cons (t := 1) rfl (AllF.cons (t := 5) rfl (AllF.cons (t := 8) rfl (AllF.cons (t := 9) rfl AllF.nil)))) ?_
        obtain ⟨g28, H⟩ := gd_some H
        refine T.regionL (ll := [0, 1]) rfl ?_
        refine TO.addG g28 rfl rfl rfl rfl rfl ?_
        refine TO.move rfl rfl rfl rfl ?_
        refine TO.done ?_
        have H := loop_next H C_1
        exact X.againE7 n_1 (out3 ++ ([x13])) (n4 + 1) c22 ob21 j23 (x13 + 1) ⟨H, (lenApp hn8 rfl), hc24, hj25, hz26⟩ (Nat.lt_succ_self _) (AllF.cons rfl (AllF.cons rfl (AllF.cons rfl (AllF.cons rfl AllF.nil)))) (Pick.cons tk0 Pick.nil)
      ·
        refine T.condF rfl (Bool.eq_false_iff.2 g17) ?_
        refine T.skip ?_
        refine X.block_normal ?_
        refine X.seq_normal ?_
        obtain ⟨g29, H⟩ := gd_some H
        refine T.regionL (ll := [0, 1]) rfl ?_
        refine TO.addG g29 rfl rfl rfl rfl rfl ?_
        refine TO.move rfl rfl rfl rfl ?_
        refine TO.done ?_
        have H := loop_next H C_1
        exact X.againE7 n_1 out3 n4 c5 ob6 j7 (x13 + 1) ⟨H, hn8, hc9, hj10, hz11⟩ (Nat.lt_succ_self _) (AllF.cons rfl (AllF.cons rfl (AllF.cons rfl (AllF.cons rfl AllF.nil)))) (Pick.cons tk0 Pick.nil)
    ·
      refine T.condPF rfl g14 ?_
      refine T.exit ?_
      refine X.then_exit ?_
      have H := loop_exitE H C_1 ▸ K_1
      refine X.then_exit ?_
      refine X.block_here ?_
      exact X.metE5 out3 n4 c5 ob6 j7 ⟨H, hn8, hc9, hj10, hz11⟩ (AllF.cons rfl AllF.nil) (Pick.cons tk0 Pick.nil)
  · rintro out30 n31 c32 ob33 j34 ⟨H, hn35, hc36, hj37, hz38⟩
    unfold m_pre_all_Active_1_j2 at H
    refine T.seq ?_
    refine T.regionL (ll := [0, 1]) rfl ?_
    refine TO.move rfl rfl rfl rfl ?_
    refine TO.assign rfl rfl rfl rfl ?_
    refine TO.done ?_
    refine X.seq_normal ?_
    refine T.ret ?_
    obtain rfl := ret1 H
    exact X.ret1 rfl rfl rfl rfl (Res.tmp rfl) (Pick.cons tk0 Pick.nil) ⟨ob33, n31, c32, j34, rfl, rfl, hn35, hc36, hj37, hz38⟩
/-- acequia/pre.Active -/
theorem w_pre_Active {c0 : Csr} {p1 : Pre} {c0f3_b : Option Addr} {c0f3_n : Nat} {c0f3_c : Nat} {c0f4_b : Option Addr} {c0f4_n : Nat} {c0f4_c : Nat} {c0f5_b : Option Addr} {c0f5_n : Nat} {c0f5_c : Nat} {c0f6_b : Option Addr} {c0f6_n : Nat} {c0f6_c : Nat} {c0f7_b : Option Addr} {c0f7_n : Nat} {c0f7_c : Nat} {c0f8_b : Option Addr} {c0f8_n : Nat} {c0f8_c : Nat} {p1f0_b : Option Addr} {p1f0_n : Nat} {p1f0_c : Nat} {p1f1_b : Option Addr} {p1f1_n : Nat} {p1f1_c : Nat} {p1f2_b : Option Addr} {p1f2_n : Nat} {p1f2_c : Nat} (w : World) (h_c0f3 : RS w [] (intC .i64) 1 c0f3_b c0f3_n c0f3_c c0.First) (h_c0f4 : RS w [] (intC .i64) 1 c0f4_b c0f4_n c0f4_c c0.Head) (h_c0f5 : RS w [] (intC .i64) 1 c0f5_b c0f5_n c0f5_c c0.Rev) (h_c0f6 : RS w [] (intC .i64) 1 c0f6_b c0f6_n c0f6_c c0.Cap) (h_c0f7 : RS w [] (intC .i64) 1 c0f7_b c0f7_n c0f7_c c0.Arc) (h_c0f8 : RS w [] boolC 1 c0f8_b c0f8_n c0f8_c c0.Back) (h_p1f0 : RS w [] (intC .i64) 1 p1f0_b p1f0_n p1f0_c p1.Res) (h_p1f1 : RS w [] (intC .i64) 1 p1f1_b p1f1_n p1f1_c p1.Ex) (h_p1f2 : RS w [] (intC .i64) 1 p1f2_b p1f2_n p1f2_c p1.H) {r0 : List Int} (H : m_pre_Active c0 p1 = some r0) : Fnc Try.prog 26 #[.agg #[.int .i64 c0.N, .int .i64 c0.S, .int .i64 c0.T, .slice c0f3_b c0f3_n c0f3_c, .slice c0f4_b c0f4_n c0f4_c, .slice c0f5_b c0f5_n c0f5_c, .slice c0f6_b c0f6_n c0f6_c, .slice c0f7_b c0f7_n c0f7_c, .slice c0f8_b c0f8_n c0f8_c], .agg #[.slice p1f0_b p1f0_n p1f0_c, .slice p1f1_b p1f1_n p1f1_c, .slice p1f2_b p1f2_n p1f2_c]] w [] (fun v N => ∃ (ob_0 : Option Nat) (n_0 : Nat) (c_0 : Nat) (j_0 : List Value), v = .slice (sb ob_0) n_0 c_0 ∧ N = [(ob_0, .cells (arr (intC .i64) r0 j_0).toArray 3 (0, 0))] ∧ r0.length = n_0 ∧ n_0 ≤ c_0 ∧ j_0.length = (c_0 - n_0) * 1 ∧ (ob_0 = none → c_0 = 0)) := by
  unfold m_pre_Active at H
  refine Fnc.enter (vs := [.agg #[.int .i64 c0.N, .int .i64 c0.S, .int .i64 c0.T, .slice c0f3_b c0f3_n c0f3_c, .slice c0f4_b c0f4_n c0f4_c, .slice c0f5_b c0f5_n c0f5_c, .slice c0f6_b c0f6_n c0f6_c, .slice c0f7_b c0f7_n c0f7_c, .slice c0f8_b c0f8_n c0f8_c], .agg #[.slice p1f0_b p1f0_n p1f0_c, .slice p1f1_b p1f1_n p1f1_c, .slice p1f2_b p1f2_n p1f2_c]]) Try.func26 rfl rfl (Inv.refl w) ?_
  refine T.seq ?_
  refine T.regionL (ll := [0, 1, 2]) rfl ?_
  refine TO.boxA rfl rfl rfl rfl ?_; intro b1
  refine TO.boxA rfl rfl rfl rfl ?_; intro b3
  refine TO.assign rfl rfl rfl rfl ?_
  refine TO.done ?_
  refine X.seq_normal ?_
  refine T.seq ?_
  obtain ⟨r5, e6, H⟩ := bd_some H
  refine T.regionL (ll := [0, 1, 2, 3]) rfl ?_
  refine TO.loadA rfl rfl rfl rfl TWBS7.a32 mm1 rfl ?_
  refine TO.makeFunc rfl rfl rfl rfl rfl ?_
  refine TO.callX TWBS7.c68 rfl rfl rfl rfl (fun wc hwc => w_pre_all_Active_1 (c0 := c0) (so1_0 := c0) (so1_1 := p1) wc (h_c0f3.mono hwc) (h_c0f4.mono hwc) (h_c0f5.mono hwc) (h_c0f6.mono hwc) (h_c0f7.mono hwc) (h_c0f8.mono hwc) (h_c0f3.mono hwc) (h_c0f4.mono hwc) (h_c0f5.mono hwc) (h_c0f6.mono hwc) (h_c0f7.mono hwc) (h_c0f8.mono hwc) (hwc.hb (cs := [.int .i64 c0.N, .int .i64 c0.S, .int .i64 c0.T, .slice c0f3_b c0f3_n c0f3_c, .slice c0f4_b c0f4_n c0f4_c, .slice c0f5_b c0f5_n c0f5_c, .slice c0f6_b c0f6_n c0f6_c, .slice c0f7_b c0f7_n c0f7_c, .slice c0f8_b c0f8_n c0f8_c]) mm1) (h_p1f0.mono hwc) (h_p1f1.mono hwc) (h_p1f2.mono hwc) (hwc.hb (cs := [.slice p1f0_b p1f0_n p1f0_c, .slice p1f1_b p1f1_n p1f1_c, .slice p1f2_b p1f2_n p1f2_c]) mm0) e6) ?_
  rintro _ _ ⟨ob7, n8, c9, j10, rfl, rfl, hn11, hc12, hj13, hz14⟩
  refine TO.assign rfl rfl rfl rfl ?_
  refine TO.done ?_
  refine X.seq_normal ?_
  refine T.ret ?_
  obtain rfl := ret1 H
  exact X.ret1 rfl rfl rfl rfl (Res.tmp rfl) (Pick.cons tk0 Pick.nil) ⟨ob7, n8, c9, j10, rfl, rfl, hn11, hc12, hj13, hz14⟩
/-- acequia/pre.admissible -/
theorem w_pre_admissible {c0 : Csr} {p1 : Pre} {u2 : Int} {a3 : Int} {c0f3_b : Option Addr} {c0f3_n : Nat} {c0f3_c : Nat} {c0f4_b : Option Addr} {c0f4_n : Nat} {c0f4_c : Nat} {c0f5_b : Option Addr} {c0f5_n : Nat} {c0f5_c : Nat} {c0f6_b : Option Addr} {c0f6_n : Nat} {c0f6_c : Nat} {c0f7_b : Option Addr} {c0f7_n : Nat} {c0f7_c : Nat} {c0f8_b : Option Addr} {c0f8_n : Nat} {c0f8_c : Nat} {p1f0_b : Option Addr} {p1f0_n : Nat} {p1f0_c : Nat} {p1f1_b : Option Addr} {p1f1_n : Nat} {p1f1_c : Nat} {p1f2_b : Option Addr} {p1f2_n : Nat} {p1f2_c : Nat} (w : World) (h_c0f3 : RS w [] (intC .i64) 1 c0f3_b c0f3_n c0f3_c c0.First) (h_c0f4 : RS w [] (intC .i64) 1 c0f4_b c0f4_n c0f4_c c0.Head) (h_c0f5 : RS w [] (intC .i64) 1 c0f5_b c0f5_n c0f5_c c0.Rev) (h_c0f6 : RS w [] (intC .i64) 1 c0f6_b c0f6_n c0f6_c c0.Cap) (h_c0f7 : RS w [] (intC .i64) 1 c0f7_b c0f7_n c0f7_c c0.Arc) (h_c0f8 : RS w [] boolC 1 c0f8_b c0f8_n c0f8_c c0.Back) (h_p1f0 : RS w [] (intC .i64) 1 p1f0_b p1f0_n p1f0_c p1.Res) (h_p1f1 : RS w [] (intC .i64) 1 p1f1_b p1f1_n p1f1_c p1.Ex) (h_p1f2 : RS w [] (intC .i64) 1 p1f2_b p1f2_n p1f2_c p1.H) {r0 : Bool} (H : m_pre_admissible c0 p1 u2 a3 = some r0) : Fnc Try.prog 67 #[.agg #[.int .i64 c0.N, .int .i64 c0.S, .int .i64 c0.T, .slice c0f3_b c0f3_n c0f3_c, .slice c0f4_b c0f4_n c0f4_c, .slice c0f5_b c0f5_n c0f5_c, .slice c0f6_b c0f6_n c0f6_c, .slice c0f7_b c0f7_n c0f7_c, .slice c0f8_b c0f8_n c0f8_c], .agg #[.slice p1f0_b p1f0_n p1f0_c, .slice p1f1_b p1f1_n p1f1_c, .slice p1f2_b p1f2_n p1f2_c], .int .i64 u2, .int .i64 a3] w [] (fun v N => v = .bool r0 ∧ N = []) := by
  unfold m_pre_admissible at H
  refine Fnc.enter (vs := [.agg #[.int .i64 c0.N, .int .i64 c0.S, .int .i64 c0.T, .slice c0f3_b c0f3_n c0f3_c, .slice c0f4_b c0f4_n c0f4_c, .slice c0f5_b c0f5_n c0f5_c, .slice c0f6_b c0f6_n c0f6_c, .slice c0f7_b c0f7_n c0f7_c, .slice c0f8_b c0f8_n c0f8_c], .agg #[.slice p1f0_b p1f0_n p1f0_c, .slice p1f1_b p1f1_n p1f1_c, .slice p1f2_b p1f2_n p1f2_c], .int .i64 u2, .int .i64 a3]) Try.func67 rfl rfl (Inv.refl w) ?_
  refine T.seq ?_
  refine T.regionL (ll := [0, 1, 2]) rfl ?_
  refine TO.boxA rfl rfl rfl rfl ?_; intro b1
  refine TO.boxA rfl rfl rfl rfl ?_; intro b3
  refine TO.assign rfl rfl rfl rfl ?_
  refine TO.done ?_
  refine X.seq_normal ?_
  refine T.seq ?_
  obtain ⟨g5, H⟩ := gd_some H
  rcases ite_some H with ⟨g6, H⟩ | ⟨g6, H⟩
  ·
    obtain ⟨g7, H⟩ := gd_some H
    obtain ⟨g8, H⟩ := gd_some H
    obtain ⟨g9, H⟩ := gd_some H
    obtain ⟨g10, H⟩ := gd_some H
    refine T.drawS 22 [0, 1, 2, 3, 4, 5, 6, 7, 8, 9, 10, 11, 12, 13, 14, 15, 16, 17, 18, 19, 20, 21] rfl mixed (by kernel_rfl) (by kernel_rfl) rfl (by kernel_rfl) ?_
    refine TQ.fieldAddr0 rfl rfl rfl rfl TWBS7.f29_0 ?_
    refine TQ.load1 rfl rfl rfl rfl TWBS7.s26 mm0 rfl ?_
    refine TQ.move rfl rfl rfl rfl ?_
    refine TQ.ixR h_p1f0 g5 rfl rfl rfl rfl rfl TWBS7.l26 TWBS7.n2 ?_
    refine TQ.ldIR h_p1f0 g5 rfl rfl rfl rfl TWBS7.s2 ?_
    refine TQ.bin rfl rfl rfl rfl rfl rfl ?_
    refine TQ.move rfl rfl rfl rfl ?_
    refine TQ.decB (t := 15) (b' := true) rfl (decide_eq_true g6) ?_
    refine TQ.fieldAddr0 rfl rfl rfl rfl TWBS7.f29_2 ?_
    refine TQ.load1 rfl rfl rfl rfl TWBS7.s27 mm0 rfl ?_
    refine TQ.move rfl rfl rfl rfl ?_
    refine TQ.ixR h_p1f2 g7 rfl rfl rfl rfl rfl TWBS7.l27 TWBS7.n3 ?_
    refine TQ.ldIR h_p1f2 g7 rfl rfl rfl rfl TWBS7.s3 ?_
    refine TQ.fieldAddr0 rfl rfl rfl rfl TWBS7.f29_2 ?_
    refine TQ.load1 rfl rfl rfl rfl TWBS7.s27 mm0 rfl ?_
    refine TQ.fieldAddr0 rfl rfl rfl rfl TWBS7.f32_4 ?_
    refine TQ.load1 rfl rfl rfl rfl TWBS7.s27 mm1 rfl ?_
    refine TQ.move rfl rfl rfl rfl ?_
    refine TQ.ixR h_c0f4 g8 rfl rfl rfl rfl rfl TWBS7.l27 TWBS7.n3 ?_
    refine TQ.ldIR h_c0f4 g8 rfl rfl rfl rfl TWBS7.s3 ?_
    refine TQ.ixR h_p1f2 g9 rfl rfl rfl rfl rfl TWBS7.l27 TWBS7.n3 ?_
    refine TQ.ldIR h_p1f2 g9 rfl rfl rfl rfl TWBS7.s3 ?_
    refine TQ.addG g10 rfl rfl rfl rfl rfl ?_
    refine TQ.tail [22, 23, 24] rfl rfl ?_
    refine TO.bin rfl rfl rfl rfl rfl rfl ?_
    refine TO.pickT rfl rfl rfl rfl rfl ?_
    refine TO.assign rfl rfl rfl rfl ?_
    refine TO.done ?_
    refine X.seq_normal ?_
    refine T.trim (AllF.cons (t := 8) rfl AllF.nil) ?_
    refine T.ret ?_
    obtain rfl := ret1 H
    exact X.ret1 rfl rfl rfl rfl (Res.tmp rfl) Pick.nil ⟨rfl, rfl⟩
  ·
    refine T.drawS 22 [0, 1, 2, 3, 4, 5, 6, 7, 8, 9, 10, 11, 12, 13, 14, 15, 16, 17, 18, 19, 20, 21] rfl mixed (by kernel_rfl) (by kernel_rfl) rfl (by kernel_rfl) ?_
    refine TQ.fieldAddr0 rfl rfl rfl rfl TWBS7.f29_0 ?_
    refine TQ.load1 rfl rfl rfl rfl TWBS7.s26 mm0 rfl ?_
    refine TQ.move rfl rfl rfl rfl ?_
    refine TQ.ixR h_p1f0 g5 rfl rfl rfl rfl rfl TWBS7.l26 TWBS7.n2 ?_
    refine TQ.ldIR h_p1f0 g5 rfl rfl rfl rfl TWBS7.s2 ?_
    refine TQ.bin rfl rfl rfl rfl rfl rfl ?_
    refine TQ.move rfl rfl rfl rfl ?_
    refine TQ.decB (t := 15) (b' := false) rfl (decide_eq_false g6) ?_
    refine TQ.shut rfl rfl rfl rfl ?_
    refine TQ.shut rfl rfl rfl rfl ?_
    refine TQ.shut rfl rfl rfl rfl ?_
    refine TQ.shut rfl rfl rfl rfl ?_
    refine TQ.shut rfl rfl rfl rfl ?_
    refine TQ.shut rfl rfl rfl rfl ?_
    refine TQ.shut rfl rfl rfl rfl ?_
    refine TQ.shut rfl rfl rfl rfl ?_
    refine TQ.shut rfl rfl rfl rfl ?_
    refine TQ.shut rfl rfl rfl rfl ?_
    refine TQ.shut rfl rfl rfl rfl ?_
    refine TQ.shut rfl rfl rfl rfl ?_
    refine TQ.shut rfl rfl rfl rfl ?_
    refine TQ.shut rfl rfl rfl rfl ?_
    refine TQ.shut rfl rfl rfl rfl ?_
    refine TQ.tail [22, 23, 24] rfl rfl ?_
    refine TO.shut rfl rfl rfl rfl ?_
    refine TO.pickF rfl rfl rfl rfl rfl ?_
    refine TO.assign rfl rfl rfl rfl ?_
    refine TO.done ?_
    refine X.seq_normal ?_
    refine T.trim (AllF.cons (t := 8) rfl AllF.nil) ?_
    refine T.ret ?_
    obtain rfl := ret1 H
    exact X.ret1 rfl rfl rfl rfl (Res.tmp rfl) Pick.nil ⟨rfl, rfl⟩
/-- acequia/pre.Copy -/
theorem w_pre_Copy {p0 : Pre} {p0f0_b : Option Addr} {p0f0_n : Nat} {p0f0_c : Nat} {p0f1_b : Option Addr} {p0f1_n : Nat} {p0f1_c : Nat} {p0f2_b : Option Addr} {p0f2_n : Nat} {p0f2_c : Nat} (w : World) (h_p0f0 : RS w [] (intC .i64) 1 p0f0_b p0f0_n p0f0_c p0.Res) (h_p0f1 : RS w [] (intC .i64) 1 p0f1_b p0f1_n p0f1_c p0.Ex) (h_p0f2 : RS w [] (intC .i64) 1 p0f2_b p0f2_n p0f2_c p0.H) {r0 : Pre} (H : m_pre_Copy p0 = some r0) : Fnc Try.prog 22 #[.agg #[.slice p0f0_b p0f0_n p0f0_c, .slice p0f1_b p0f1_n p0f1_c, .slice p0f2_b p0f2_n p0f2_c]] w [] (fun v N => ∃ (ob_0 : Option Nat) (n_0 : Nat) (c_0 : Nat) (j_0 : List Value) (ob_4 : Option Nat) (n_4 : Nat) (c_4 : Nat) (j_4 : List Value) (ob_8 : Option Nat) (n_8 : Nat) (c_8 : Nat) (j_8 : List Value), v = .agg #[.slice (sb ob_0) n_0 c_0, .slice (sb ob_4) n_4 c_4, .slice (sb ob_8) n_8 c_8] ∧ N = [(ob_0, .cells (arr (intC .i64) r0.Res j_0).toArray 2 (0, 0)), (ob_4, .cells (arr (intC .i64) r0.Ex j_4).toArray 2 (0, 0)), (ob_8, .cells (arr (intC .i64) r0.H j_8).toArray 3 (0, 0))] ∧ r0.Res.length = n_0 ∧ n_0 ≤ c_0 ∧ j_0.length = (c_0 - n_0) * 1 ∧ (ob_0 = none → c_0 = 0) ∧ r0.Ex.length = n_4 ∧ n_4 ≤ c_4 ∧ j_4.length = (c_4 - n_4) * 1 ∧ (ob_4 = none → c_4 = 0) ∧ r0.H.length = n_8 ∧ n_8 ≤ c_8 ∧ j_8.length = (c_8 - n_8) * 1 ∧ (ob_8 = none → c_8 = 0)) := by
  unfold m_pre_Copy at H
  refine Fnc.enter (vs := [.agg #[.slice p0f0_b p0f0_n p0f0_c, .slice p0f1_b p0f1_n p0f1_c, .slice p0f2_b p0f2_n p0f2_c]]) Try.func22 rfl rfl (Inv.refl w) ?_
  refine T.seq ?_
  refine T.regionL (ll := [0, 1]) rfl ?_
  refine TO.boxA rfl rfl rfl rfl ?_; intro b1
  refine TO.allocA rfl rfl rfl TWBS7.z29 ?_; intro b3
  refine TO.done ?_
  refine X.seq_normal ?_
  refine T.seq ?_
  obtain ⟨r5, e6, H⟩ := bd_some H
  obtain ⟨r16, e17, H⟩ := bd_some H
  obtain ⟨r27, e28, H⟩ := bd_some H
  apply T.drawL [⟨[], false, [], relV _⟩, ⟨[0], false, [], relV _⟩, ⟨[1], false, [], fun _ v e => ∃ (ob7 : Option Nat) (n8 : Nat) (c9 : Nat) (j10 : List Value), v = .slice (sb ob7) n8 c9 ∧ e = [(ob7, .cells (arr (intC .i64) r5 j10).toArray 2 (0, 0))] ∧ r5.length = n8 ∧ n8 ≤ c9 ∧ j10.length = (c9 - n8) * 1 ∧ (ob7 = none → c9 = 0)⟩, ⟨[], false, [], relV _⟩, ⟨[3], false, [], relV _⟩, ⟨[4], false, [], fun _ v e => ∃ (ob18 : Option Nat) (n19 : Nat) (c20 : Nat) (j21 : List Value), v = .slice (sb ob18) n19 c20 ∧ e = [(ob18, .cells (arr (intC .i64) r16 j21).toArray 2 (0, 0))] ∧ r16.length = n19 ∧ n19 ≤ c20 ∧ j21.length = (c20 - n19) * 1 ∧ (ob18 = none → c20 = 0)⟩, ⟨[], false, [], relV _⟩, ⟨[6], false, [], relV _⟩] [3, 4, 5, 6, 7, 8, 9, 10] 8 (HRk [[]]) [[]] [] [(some b3, .cells #[.slice none 0 0, .slice none 0 0, .slice none 0 0] 29 (0, 0)), (some b1, .cells #[.slice p0f0_b p0f0_n p0f0_c, .slice p0f1_b p0f1_n p0f1_c, .slice p0f2_b p0f2_n p0f2_c] 29 (0, 0))]
  · exact mixed
  · exact rfl
  · kernel_rfl
  · kernel_rfl
  · kernel_rfl
  · exact rfl
  · exact rfl
  · exact rfl
  · exact rfl
  · exact (by repeat (first | exact Pick.refl _ | exact Pick.nil | apply Pick.none | refine Pick.cons (by repeat (first | exact Take.head _ _ | apply Take.tail)) ?_))
  · refine ⟨?_, ?_, ?_, ?_, ?_, ?_, ?_, ?_, trivial⟩
    · rintro vs es Es Hx -
      refine TO.reenv (D := []) rfl ?_
      refine TO.fieldAddr0 rfl rfl rfl rfl TWBS7.f29_0 ?_
      refine TO.done ?_; exact X.obQ rfl ⟨rfl, rfl⟩ (Pick.refl _) rfl
    · rintro vs es Es Hx ⟨⟨h_0, e_0⟩, -⟩
      refine TO.reenv (D := [(3, vs 0)]) rfl ?_; rw [h_0]
      refine TO.load1 rfl rfl rfl rfl TWBS7.s26 mm1 rfl ?_
      refine TO.done ?_; exact X.obQ rfl ⟨rfl, rfl⟩ (Pick.refl _) (by show [(3, vs 0)] = _; rw [h_0])
    · rintro vs es Es Hx ⟨⟨h_1, e_1⟩, -⟩
      refine TO.reenv (D := [(4, vs 1)]) rfl ?_; rw [h_1]
      refine TO.callX TWBS7.c58 rfl rfl rfl rfl (fun wc hwc => w_slices_Clone_int64 (s0 := p0.Res) wc (h_p0f0.mono hwc) e6) ?_
      rintro _ _ ⟨ob7, n8, c9, j10, rfl, rfl, hn11, hc12, hj13, hz14⟩
      refine TO.done ?_; exact X.obQ rfl ⟨ob7, n8, c9, j10, rfl, rfl, hn11, hc12, hj13, hz14⟩ (by repeat (first | exact Pick.refl _ | exact Pick.nil | apply Pick.none | refine Pick.cons (by repeat (first | exact Take.head _ _ | apply Take.tail)) ?_)) (by show [(4, vs 1)] = _; rw [h_1])
    · rintro vs es Es Hx -
      refine TO.reenv (D := []) rfl ?_
      refine TO.fieldAddr0 rfl rfl rfl rfl TWBS7.f29_1 ?_
      refine TO.done ?_; exact X.obQ rfl ⟨rfl, rfl⟩ (Pick.refl _) rfl
    · rintro vs es Es Hx ⟨⟨h_3, e_3⟩, -⟩
      refine TO.reenv (D := [(6, vs 3)]) rfl ?_; rw [h_3]
      refine TO.load1 rfl rfl rfl rfl TWBS7.s26 mm1 rfl ?_
      refine TO.done ?_; exact X.obQ rfl ⟨rfl, rfl⟩ (Pick.refl _) (by show [(6, vs 3)] = _; rw [h_3])
    · rintro vs es Es Hx ⟨⟨h_4, e_4⟩, -⟩
      refine TO.reenv (D := [(7, vs 4)]) rfl ?_; rw [h_4]
      refine TO.callX TWBS7.c58 rfl rfl rfl rfl (fun wc hwc => w_slices_Clone_int64 (s0 := p0.Ex) wc (h_p0f1.mono hwc) e17) ?_
      rintro _ _ ⟨ob18, n19, c20, j21, rfl, rfl, hn22, hc23, hj24, hz25⟩
      refine TO.done ?_; exact X.obQ rfl ⟨ob18, n19, c20, j21, rfl, rfl, hn22, hc23, hj24, hz25⟩ (by repeat (first | exact Pick.refl _ | exact Pick.nil | apply Pick.none | refine Pick.cons (by repeat (first | exact Take.head _ _ | apply Take.tail)) ?_)) (by show [(7, vs 4)] = _; rw [h_4])
    · rintro vs es Es Hx -
      refine TO.reenv (D := []) rfl ?_
      refine TO.fieldAddr0 rfl rfl rfl rfl TWBS7.f29_2 ?_
      refine TO.done ?_; exact X.obQ rfl ⟨rfl, rfl⟩ (Pick.refl _) rfl
    · rintro vs es Es Hx ⟨⟨h_6, e_6⟩, -⟩
      refine TO.reenv (D := [(9, vs 6)]) rfl ?_; rw [h_6]
      refine TO.load1 rfl rfl rfl rfl TWBS7.s27 mm1 rfl ?_
      refine TO.done ?_; exact X.obQ rfl ⟨rfl, rfl⟩ (Pick.refl _) (by show [(9, vs 6)] = _; rw [h_6])
  · rintro vs es hb ⟨⟨h_0, e_0⟩, ⟨h_1, e_1⟩, ⟨ob7, n8, c9, j10, h_2, e_2, hn11, hc12, hj13, hz14⟩, ⟨h_3, e_3⟩, ⟨h_4, e_4⟩, ⟨ob18, n19, c20, j21, h_5, e_5, hn22, hc23, hj24, hz25⟩, ⟨h_6, e_6⟩, ⟨h_7, e_7⟩, -⟩ hHR
    obtain rfl : hb = [] := hHR
    refine TO.reenv (D := [(3, vs 0), (4, vs 1), (5, vs 2), (6, vs 3), (7, vs 4), (8, vs 5), (9, vs 6), (10, vs 7)]) rfl ?_
    refine TO.reheap (H := [(some b3, .cells #[.slice none 0 0, .slice none 0 0, .slice none 0 0] 29 (0, 0)), (some b1, .cells #[.slice p0f0_b p0f0_n p0f0_c, .slice p0f1_b p0f1_n p0f1_c, .slice p0f2_b p0f2_n p0f2_c] 29 (0, 0)), (ob7, .cells (arr (intC .i64) r5 j10).toArray 2 (0, 0)), (ob18, .cells (arr (intC .i64) r16 j21).toArray 2 (0, 0))]) (by show _ ++ (_ ++ (es 0 ++ (es 1 ++ (es 2 ++ (es 3 ++ (es 4 ++ (es 5 ++ (es 6 ++ (es 7 ++ ([])))))))))) = _; rw [e_0, e_1, e_2, e_3, e_4, e_5, e_6, e_7]; rfl) ?_
    rw [h_0, h_1, h_2, h_3, h_4, h_5, h_6, h_7]
    clear h_7 h_6 h_5 h_4 h_3 h_2 h_1 h_0 e_0 e_1 e_2 e_3 e_4 e_5 e_6 e_7
    refine TO.callX TWBS7.c65 rfl rfl rfl rfl (fun wc hwc => w_slices_Clone_int (s0 := p0.H) wc (h_p0f2.mono hwc) e28) ?_
    rintro _ _ ⟨ob29, n30, c31, j32, rfl, rfl, hn33, hc34, hj35, hz36⟩
    refine TO.buildS (t := 29) [.slice none 0 0, .slice none 0 0, .slice none 0 0] [0, 1, 2] rfl rfl rfl rfl (by simp only [setAll, setCells, Value.cells, List.toList_toArray, List.getD_cons_zero, List.getD_cons_succ, List.set_cons_zero, List.set_cons_succ]; rfl) (by kernel_rfl) ?_
    refine TO.storeA rfl rfl rfl rfl tk1 TWBS7.n29 rfl rfl rfl ?_
    refine TO.done ?_
    refine X.seq_normal ?_
    refine T.trim (AllF.cons (t := 2) rfl AllF.nil) ?_
    refine T.ret ?_
    obtain rfl := ret1 H
    exact X.ret1 rfl rfl rfl rfl (Res.cellA rfl TWBS7.a29 mm0 rfl) (Pick.cons tk3 (Pick.cons tk3 (Pick.cons tk1 Pick.nil))) ⟨ob7, n8, c9, j10, ob18, n19, c20, j21, ob29, n30, c31, j32, rfl, rfl, hn11, hc12, hj13, hz14, hn22, hc23, hj24, hz25, hn33, hc34, hj35, hz36⟩
/-- acequia/pre.Push -/
theorem w_pre_Push {c0 : Csr} {p1 : Pre} {a2 : Int} {c0f3_b : Option Addr} {c0f3_n : Nat} {c0f3_c : Nat} {c0f4_b : Option Addr} {c0f4_n : Nat} {c0f4_c : Nat} {c0f5_b : Option Addr} {c0f5_n : Nat} {c0f5_c : Nat} {c0f6_b : Option Addr} {c0f6_n : Nat} {c0f6_c : Nat} {c0f7_b : Option Addr} {c0f7_n : Nat} {c0f7_c : Nat} {c0f8_b : Option Addr} {c0f8_n : Nat} {c0f8_c : Nat} {p1f0_b : Option Addr} {p1f0_n : Nat} {p1f0_c : Nat} {p1f1_b : Option Addr} {p1f1_n : Nat} {p1f1_c : Nat} {p1f2_b : Option Addr} {p1f2_n : Nat} {p1f2_c : Nat} (w : World) (h_c0f3 : RS w [] (intC .i64) 1 c0f3_b c0f3_n c0f3_c c0.First) (h_c0f4 : RS w [] (intC .i64) 1 c0f4_b c0f4_n c0f4_c c0.Head) (h_c0f5 : RS w [] (intC .i64) 1 c0f5_b c0f5_n c0f5_c c0.Rev) (h_c0f6 : RS w [] (intC .i64) 1 c0f6_b c0f6_n c0f6_c c0.Cap) (h_c0f7 : RS w [] (intC .i64) 1 c0f7_b c0f7_n c0f7_c c0.Arc) (h_c0f8 : RS w [] boolC 1 c0f8_b c0f8_n c0f8_c c0.Back) (h_p1f0 : RS w [] (intC .i64) 1 p1f0_b p1f0_n p1f0_c p1.Res) (h_p1f1 : RS w [] (intC .i64) 1 p1f1_b p1f1_n p1f1_c p1.Ex) (h_p1f2 : RS w [] (intC .i64) 1 p1f2_b p1f2_n p1f2_c p1.H) {r0 : Pre} {r1 : Int} {r2 : Int} (H : m_pre_Push c0 p1 a2 = some (r0, r1, r2)) : Fnc Try.prog 28 #[.agg #[.int .i64 c0.N, .int .i64 c0.S, .int .i64 c0.T, .slice c0f3_b c0f3_n c0f3_c, .slice c0f4_b c0f4_n c0f4_c, .slice c0f5_b c0f5_n c0f5_c, .slice c0f6_b c0f6_n c0f6_c, .slice c0f7_b c0f7_n c0f7_c, .slice c0f8_b c0f8_n c0f8_c], .agg #[.slice p1f0_b p1f0_n p1f0_c, .slice p1f1_b p1f1_n p1f1_c, .slice p1f2_b p1f2_n p1f2_c], .int .i64 a2] w [] (fun v N => ∃ (ob_0 : Option Nat) (n_0 : Nat) (c_0 : Nat) (j_0 : List Value) (ob_4 : Option Nat) (n_4 : Nat) (c_4 : Nat) (j_4 : List Value) (ob_8 : Option Nat) (n_8 : Nat) (c_8 : Nat) (j_8 : List Value), v = .tuple #[.agg #[.slice (sb ob_0) n_0 c_0, .slice (sb ob_4) n_4 c_4, .slice (sb ob_8) n_8 c_8], .int .i64 r1, .int .i64 r2] ∧ N = [(ob_0, .cells (arr (intC .i64) r0.Res j_0).toArray 2 (0, 0)), (ob_4, .cells (arr (intC .i64) r0.Ex j_4).toArray 2 (0, 0)), (ob_8, .cells (arr (intC .i64) r0.H j_8).toArray 3 (0, 0))] ∧ r0.Res.length = n_0 ∧ n_0 ≤ c_0 ∧ j_0.length = (c_0 - n_0) * 1 ∧ (ob_0 = none → c_0 = 0) ∧ r0.Ex.length = n_4 ∧ n_4 ≤ c_4 ∧ j_4.length = (c_4 - n_4) * 1 ∧ (ob_4 = none → c_4 = 0) ∧ r0.H.length = n_8 ∧ n_8 ≤ c_8 ∧ j_8.length = (c_8 - n_8) * 1 ∧ (ob_8 = none → c_8 = 0)) := by
  unfold m_pre_Push at H
  refine Fnc.enter (vs := [.agg #[.int .i64 c0.N, .int .i64 c0.S, .int .i64 c0.T, .slice c0f3_b c0f3_n c0f3_c, .slice c0f4_b c0f4_n c0f4_c, .slice c0f5_b c0f5_n c0f5_c, .slice c0f6_b c0f6_n c0f6_c, .slice c0f7_b c0f7_n c0f7_c, .slice c0f8_b c0f8_n c0f8_c], .agg #[.slice p1f0_b p1f0_n p1f0_c, .slice p1f1_b p1f1_n p1f1_c, .slice p1f2_b p1f2_n p1f2_c], .int .i64 a2]) Try.func28 rfl rfl (Inv.refl w) ?_
  refine T.seq ?_
  refine T.regionL (ll := [0, 1, 2, 3, 4]) rfl ?_
  refine TO.boxA rfl rfl rfl rfl ?_; intro b1
  refine TO.boxA rfl rfl rfl rfl ?_; intro b3
  refine TO.allocA rfl rfl rfl TWBS7.z29 ?_; intro b5
  refine TO.assign rfl rfl rfl rfl ?_
  refine TO.assign rfl rfl rfl rfl ?_
  refine TO.done ?_
  refine X.seq_normal ?_
  refine T.seq ?_
  obtain ⟨⟨r7, r8⟩, e9, H⟩ := bd_some H
  refine T.regionL (ll := [0, 1, 2, 3, 4, 5, 6, 7]) rfl ?_
  refine TO.loadA rfl rfl rfl rfl TWBS7.a32 mm2 rfl ?_
  refine TO.move rfl rfl rfl rfl ?_
  refine TO.callX TWBS7.c37 rfl rfl rfl rfl (fun wc hwc => w_csr_Tail (c0 := c0) (a1 := a2) wc (h_c0f3.mono hwc) (h_c0f4.mono hwc) (h_c0f5.mono hwc) (h_c0f6.mono hwc) (h_c0f7.mono hwc) (h_c0f8.mono hwc) e9) ?_
  rintro _ _ ⟨rfl, rfl⟩
  refine TO.move rfl rfl rfl rfl ?_
  refine TO.extract rfl rfl rfl rfl rfl ?_
  refine TO.extract rfl rfl rfl rfl rfl ?_
  refine TO.assign rfl rfl rfl rfl ?_
  refine TO.assign rfl rfl rfl rfl ?_
  refine TO.done ?_
  refine X.seq_normal ?_
  refine T.trim (AllF.cons (t := 2) rfl (AllF.cons (t := 3) rfl (AllF.cons (t := 4) rfl (AllF.cons (t := 6) rfl (AllF.cons (t := 9) rfl (AllF.cons (t := 10) rfl AllF.nil)))))) ?_
  refine T.seq ?_
  refine T.block ?_
  refine T.seq ?_
  refine T.regionL (ll := [0, 1, 2]) rfl ?_
  refine TO.move rfl rfl rfl rfl ?_
  refine TO.not rfl rfl rfl rfl ?_
  refine TO.assign rfl rfl rfl rfl ?_
  refine TO.done ?_
  refine X.seq_normal ?_
  rcases ite_some H with ⟨g10, H⟩ | ⟨g10, H⟩
  ·
    refine T.condT rfl g10 ?_
    refine T.seq ?_
    refine T.regionL (ll := [0, 1, 2, 3]) rfl ?_
    refine TO.buildS (t := 29) [.slice none 0 0, .slice none 0 0, .slice none 0 0] [0, 1, 2] rfl rfl rfl rfl (by simp only [setAll, setCells, Value.cells, List.toList_toArray, List.getD_cons_zero, List.getD_cons_succ, List.set_cons_zero, List.set_cons_succ]; rfl) (by kernel_rfl) ?_
    refine TO.storeA rfl rfl rfl rfl tk0 TWBS7.n29 rfl rfl rfl ?_
    refine TO.assign rfl rfl rfl rfl ?_
    refine TO.assign rfl rfl rfl rfl ?_
    refine TO.done ?_
    refine X.seq_normal ?_
    refine T.trim (AllF.cons (t := 6) rfl (AllF.cons (t := 7) rfl (AllF.cons (t := 8) rfl AllF.nil))) ?_
    refine T.ret ?_
    refine X.block_ret ?_
    refine X.then_ret ?_
    obtain ⟨rfl, rfl, rfl⟩ := ret3 H
    exact X.ret3 rfl rfl rfl rfl (Res.cellA rfl TWBS7.a29 mm0 rfl) (Res.tmp rfl) (Res.tmp rfl) (Pick.none (Pick.none (Pick.none Pick.nil))) ⟨none, 0, 0, ([]), none, 0, 0, ([]), none, 0, 0, ([]), rfl, rfl, rfl, (Nat.le_refl _), (zeroJ 0 _), (fun _ => rfl), rfl, (Nat.le_refl _), (zeroJ 0 _), (fun _ => rfl), rfl, (Nat.le_refl _), (zeroJ 0 _), (fun _ => rfl)⟩
  ·
    refine T.condF rfl (Bool.eq_false_iff.2 g10) ?_
    refine T.seq ?_
    refine T.meetSE1 (fun (x16 : Bool) => m_pre_Push_j1 c0 p1 a2 r7 x16 = some (r0, r1, r2)) (fun (x16 : Bool) => [(2, .int .i64 a2), (3, .pointer (some ⟨b1, 0, none⟩)), (4, .pointer (some ⟨b3, 0, none⟩)), (6, .pointer (some ⟨b5, 0, none⟩)), (9, .int .i64 r7), (23, .bool x16)]) (fun (x16 : Bool) => [(some b1, .cells #[.int .i64 c0.N, .int .i64 c0.S, .int .i64 c0.T, .slice c0f3_b c0f3_n c0f3_c, .slice c0f4_b c0f4_n c0f4_c, .slice c0f5_b c0f5_n c0f5_c, .slice c0f6_b c0f6_n c0f6_c, .slice c0f7_b c0f7_n c0f7_c, .slice c0f8_b c0f8_n c0f8_c] 32 (0, 0)), (some b3, .cells #[.slice p1f0_b p1f0_n p1f0_c, .slice p1f1_b p1f1_n p1f1_c, .slice p1f2_b p1f2_n p1f2_c] 29 (0, 0)), (some b5, .cells #[.slice none 0 0, .slice none 0 0, .slice none 0 0] 29 (0, 0))]) ?_ ?_
    ·
      obtain ⟨r11, e12, H⟩ := bd_some H
      rcases ite_some H with ⟨g13, H⟩ | ⟨g13, H⟩
      ·
        refine T.regionL (ll := [0, 1, 2, 3, 4, 5, 6, 7, 8, 9, 10, 11, 12, 13]) rfl ?_
        refine TO.loadA rfl rfl rfl rfl TWBS7.a32 mm2 rfl ?_
        refine TO.loadA rfl rfl rfl rfl TWBS7.a29 mm1 rfl ?_
        refine TO.move rfl rfl rfl rfl ?_
        refine TO.callX TWBS7.c66 rfl rfl rfl rfl (fun wc hwc => w_pre_active (c0 := c0) (p1 := p1) (u2 := r7) wc (h_c0f3.mono hwc) (h_c0f4.mono hwc) (h_c0f5.mono hwc) (h_c0f6.mono hwc) (h_c0f7.mono hwc) (h_c0f8.mono hwc) (h_p1f0.mono hwc) (h_p1f1.mono hwc) (h_p1f2.mono hwc) e12) ?_
        rintro _ _ ⟨rfl, rfl⟩
        refine TO.not rfl rfl rfl rfl ?_
        refine TO.move rfl rfl rfl rfl ?_
        refine TO.decB (t := 29) (b' := true) rfl g13 ?_
        refine TO.shut rfl rfl rfl rfl ?_
        refine TO.shut rfl rfl rfl rfl ?_
        refine TO.shut rfl rfl rfl rfl ?_
        refine TO.shut rfl rfl rfl rfl ?_
        refine TO.shut rfl rfl rfl rfl ?_
        refine TO.shut rfl rfl rfl rfl ?_
        refine TO.pickT rfl rfl rfl rfl rfl ?_
        refine TO.assign rfl rfl rfl rfl ?_
        refine TO.done ?_
        exact X.metE1 true H (AllF.cons rfl (AllF.cons rfl (AllF.cons rfl (AllF.cons rfl (AllF.cons rfl (AllF.cons rfl AllF.nil)))))) (Pick.cons tk2 (Pick.cons tk1 (Pick.cons tk0 Pick.nil)))
      ·
        obtain ⟨r14, e15, H⟩ := bd_some H
        refine T.regionL (ll := [0, 1, 2, 3, 4, 5, 6, 7, 8, 9, 10, 11, 12, 13]) rfl ?_
        refine TO.loadA rfl rfl rfl rfl TWBS7.a32 mm2 rfl ?_
        refine TO.loadA rfl rfl rfl rfl TWBS7.a29 mm1 rfl ?_
        refine TO.move rfl rfl rfl rfl ?_
        refine TO.callX TWBS7.c66 rfl rfl rfl rfl (fun wc hwc => w_pre_active (c0 := c0) (p1 := p1) (u2 := r7) wc (h_c0f3.mono hwc) (h_c0f4.mono hwc) (h_c0f5.mono hwc) (h_c0f6.mono hwc) (h_c0f7.mono hwc) (h_c0f8.mono hwc) (h_p1f0.mono hwc) (h_p1f1.mono hwc) (h_p1f2.mono hwc) e12) ?_
        rintro _ _ ⟨rfl, rfl⟩
        refine TO.not rfl rfl rfl rfl ?_
        refine TO.move rfl rfl rfl rfl ?_
        refine TO.decB (t := 29) (b' := false) rfl (Bool.eq_false_iff.2 g13) ?_
        refine TO.loadA rfl rfl rfl rfl TWBS7.a32 mm2 rfl ?_
        refine TO.loadA rfl rfl rfl rfl TWBS7.a29 mm1 rfl ?_
        refine TO.move rfl rfl rfl rfl ?_
        refine TO.move rfl rfl rfl rfl ?_
        refine TO.callX TWBS7.c67 rfl rfl rfl rfl (fun wc hwc => w_pre_admissible (c0 := c0) (p1 := p1) (u2 := r7) (a3 := a2) wc (h_c0f3.mono hwc) (h_c0f4.mono hwc) (h_c0f5.mono hwc) (h_c0f6.mono hwc) (h_c0f7.mono hwc) (h_c0f8.mono hwc) (h_p1f0.mono hwc) (h_p1f1.mono hwc) (h_p1f2.mono hwc) e15) ?_
        rintro _ _ ⟨rfl, rfl⟩
        refine TO.not rfl rfl rfl rfl ?_
        refine TO.pickF rfl rfl rfl rfl rfl ?_
        refine TO.assign rfl rfl rfl rfl ?_
        refine TO.done ?_
        exact X.metE1 (!r14) H (AllF.cons rfl (AllF.cons rfl (AllF.cons rfl (AllF.cons rfl (AllF.cons rfl (AllF.cons rfl AllF.nil)))))) (Pick.cons tk2 (Pick.cons tk1 (Pick.cons tk0 Pick.nil)))
    · rintro x16 H
      unfold m_pre_Push_j1 at H
      rcases ite_some H with ⟨g17, H⟩ | ⟨g17, H⟩
      ·
        refine T.condT rfl g17 ?_
        refine T.seq ?_
        refine T.regionL (ll := [0, 1, 2, 3]) rfl ?_
        refine TO.buildS (t := 29) [.slice none 0 0, .slice none 0 0, .slice none 0 0] [0, 1, 2] rfl rfl rfl rfl (by simp only [setAll, setCells, Value.cells, List.toList_toArray, List.getD_cons_zero, List.getD_cons_succ, List.set_cons_zero, List.set_cons_succ]; rfl) (by kernel_rfl) ?_
        refine TO.storeA rfl rfl rfl rfl tk2 TWBS7.n29 rfl rfl rfl ?_
        refine TO.assign rfl rfl rfl rfl ?_
        refine TO.assign rfl rfl rfl rfl ?_
        refine TO.done ?_
        refine X.seq_normal ?_
        refine T.ret ?_
        refine X.block_ret ?_
        refine X.then_ret ?_
        obtain ⟨rfl, rfl, rfl⟩ := ret3 H
        exact X.ret3 rfl rfl rfl rfl (Res.cellA rfl TWBS7.a29 mm0 rfl) (Res.tmp rfl) (Res.tmp rfl) (Pick.none (Pick.none (Pick.none Pick.nil))) ⟨none, 0, 0, ([]), none, 0, 0, ([]), none, 0, 0, ([]), rfl, rfl, rfl, (Nat.le_refl _), (zeroJ 0 _), (fun _ => rfl), rfl, (Nat.le_refl _), (zeroJ 0 _), (fun _ => rfl), rfl, (Nat.le_refl _), (zeroJ 0 _), (fun _ => rfl)⟩
      ·
        refine T.condF rfl (Bool.eq_false_iff.2 g17) ?_
        refine T.skip ?_
        refine X.block_normal ?_
        refine X.seq_normal ?_
        refine T.seq ?_
        obtain ⟨r18, e19, H⟩ := bd_some H
        refine T.regionL (ll := [0, 1, 2, 3]) rfl ?_
        refine TO.loadA rfl rfl rfl rfl TWBS7.a29 mm1 rfl ?_
        refine TO.callX TWBS7.c22 rfl rfl rfl rfl (fun wc hwc => w_pre_Copy (p0 := p1) wc (h_p1f0.mono hwc) (h_p1f1.mono hwc) (h_p1f2.mono hwc) e19) ?_
        rintro _ _ ⟨ob20, n21, c22, j23, ob24, n25, c26, j27, ob28, n29, c30, j31, rfl, rfl, hn32, hc33, hj34, hz35, hn36, hc37, hj38, hz39, hn40, hc41, hj42, hz43⟩
        refine TO.allocA rfl rfl rfl TWBS7.z29 ?_; intro b47
        refine TO.storeA rfl rfl rfl rfl tk0 TWBS7.n29 rfl rfl rfl ?_
        refine TO.done ?_
        refine X.seq_normal ?_
        refine T.seq ?_
        obtain ⟨g49, H⟩ := gd_some H
        obtain ⟨g50, H⟩ := gd_some H
        refine T.drawS 10 [0, 1, 2, 3, 4, 5, 6, 7, 8, 9] rfl mixed (by kernel_rfl) (by kernel_rfl) rfl (by kernel_rfl) ?_
        refine TQ.fieldAddr0 rfl rfl rfl rfl TWBS7.f29_1 ?_
        refine TQ.load1 rfl rfl rfl rfl TWBS7.s26 mm5 rfl ?_
        refine TQ.move rfl rfl rfl rfl ?_
        refine TQ.ixR h_p1f1 g49 rfl rfl rfl rfl rfl TWBS7.l26 TWBS7.n2 ?_
        refine TQ.ldIR h_p1f1 g49 rfl rfl rfl rfl TWBS7.s2 ?_
        refine TQ.fieldAddr0 rfl rfl rfl rfl TWBS7.f29_0 ?_
        refine TQ.load1 rfl rfl rfl rfl TWBS7.s26 mm5 rfl ?_
        refine TQ.move rfl rfl rfl rfl ?_
        refine TQ.ixR h_p1f0 g50 rfl rfl rfl rfl rfl TWBS7.l26 TWBS7.n2 ?_
        refine TQ.ldIR h_p1f0 g50 rfl rfl rfl rfl TWBS7.s2 ?_
        refine TQ.tail [10, 11] rfl rfl ?_
        refine TO.min2 rfl rfl rfl rfl rfl ?_
        refine TO.assign rfl rfl rfl rfl ?_
        refine TO.done ?_
        refine X.seq_normal ?_
        refine T.trim (AllF.cons (t := 2) rfl (AllF.cons (t := 3) rfl (AllF.cons (t := 6) rfl (AllF.cons (t := 11) rfl (AllF.cons (t := 12) rfl AllF.nil))))) ?_
        refine T.seq ?_
        obtain ⟨r51, e52, H⟩ := bd_some H
        refine T.regionL (ll := [0, 1, 2, 3]) rfl ?_
        refine TO.loadA rfl rfl rfl rfl TWBS7.a32 mm4 rfl ?_
        refine TO.move rfl rfl rfl rfl ?_
        refine TO.move rfl rfl rfl rfl ?_
        refine TO.callXM TWBS7.c60 rfl rfl rfl rfl (Take.gone tk0 (Take.gone tk0 (Take.gone tk0 (Gone.refl _)))) rfl (fun wc hwc => w_pre_move (c0 := c0) (p1 := r18) (a2 := a2) (d3 := (min (p1.Ex.getD r7.toNat 0) (p1.Res.getD a2.toNat 0))) wc (hwc.self (Pick.cons tk0 (Pick.cons tk0 (Pick.cons tk0 Pick.nil))) rfl) (h_c0f3.monoM (by decide) hwc (Take.gone tk0 (Take.gone tk0 (Take.gone tk0 (Gone.refl _)))) rfl) (h_c0f4.monoM (by decide) hwc (Take.gone tk0 (Take.gone tk0 (Take.gone tk0 (Gone.refl _)))) rfl) (h_c0f5.monoM (by decide) hwc (Take.gone tk0 (Take.gone tk0 (Take.gone tk0 (Gone.refl _)))) rfl) (h_c0f6.monoM (by decide) hwc (Take.gone tk0 (Take.gone tk0 (Take.gone tk0 (Gone.refl _)))) rfl) (h_c0f7.monoM (by decide) hwc (Take.gone tk0 (Take.gone tk0 (Take.gone tk0 (Gone.refl _)))) rfl) (h_c0f8.monoM (by decide) hwc (Take.gone tk0 (Take.gone tk0 (Take.gone tk0 (Gone.refl _)))) rfl) hn32 hc33 hj34 hz35 hn36 hc37 hj38 hz39 (hwc.rsM (f := (intC .i64)) (s := 1) (xs := r18.H) (j := j31) (fun _ => rfl) (Take.gone tk0 (Take.gone tk0 (Take.gone tk0 (Gone.refl _)))) rfl mm0 hn40 hc41 hz43) e52) ?_
        rintro _ _ ⟨rfl, rfl, hn53, hn54⟩
        refine TO.done ?_
        refine X.seq_normal ?_
        refine T.seq ?_
        refine T.regionL (ll := [0, 1, 2, 3, 4]) rfl ?_
        refine TO.loadA rfl rfl rfl rfl TWBS7.a29 mm0 rfl ?_
        refine TO.move rfl rfl rfl rfl ?_
        refine TO.storeA rfl rfl rfl rfl tk6 TWBS7.n29 rfl rfl rfl ?_
        refine TO.assign rfl rfl rfl rfl ?_
        refine TO.assign rfl rfl rfl rfl ?_
        refine TO.done ?_
        refine X.seq_normal ?_
        refine T.trim (AllF.cons (t := 6) rfl (AllF.cons (t := 7) rfl (AllF.cons (t := 8) rfl AllF.nil))) ?_
        refine T.ret ?_
        obtain ⟨rfl, rfl, rfl⟩ := ret3 H
        exact X.ret3 rfl rfl rfl rfl (Res.cellA rfl TWBS7.a29 mm0 rfl) (Res.tmp rfl) (Res.tmp rfl) (Pick.cons tk2 (Pick.cons tk2 (Pick.cons tk2 Pick.nil))) ⟨ob20, n21, c22, j23, ob24, n25, c26, j27, ob28, n29, c30, j31, rfl, rfl, hn53, hc33, hj34, hz35, hn54, hc37, hj38, hz39, hn40, hc41, hj42, hz43⟩
/-- acequia/pre.stuck -/
theorem w_pre_stuck {c0 : Csr} {p1 : Pre} {u2 : Int} {c0f3_b : Option Addr} {c0f3_n : Nat} {c0f3_c : Nat} {c0f4_b : Option Addr} {c0f4_n : Nat} {c0f4_c : Nat} {c0f5_b : Option Addr} {c0f5_n : Nat} {c0f5_c : Nat} {c0f6_b : Option Addr} {c0f6_n : Nat} {c0f6_c : Nat} {c0f7_b : Option Addr} {c0f7_n : Nat} {c0f7_c : Nat} {c0f8_b : Option Addr} {c0f8_n : Nat} {c0f8_c : Nat} {p1f0_b : Option Addr} {p1f0_n : Nat} {p1f0_c : Nat} {p1f1_b : Option Addr} {p1f1_n : Nat} {p1f1_c : Nat} {p1f2_b : Option Addr} {p1f2_n : Nat} {p1f2_c : Nat} (w : World) (h_c0f3 : RS w [] (intC .i64) 1 c0f3_b c0f3_n c0f3_c c0.First) (h_c0f4 : RS w [] (intC .i64) 1 c0f4_b c0f4_n c0f4_c c0.Head) (h_c0f5 : RS w [] (intC .i64) 1 c0f5_b c0f5_n c0f5_c c0.Rev) (h_c0f6 : RS w [] (intC .i64) 1 c0f6_b c0f6_n c0f6_c c0.Cap) (h_c0f7 : RS w [] (intC .i64) 1 c0f7_b c0f7_n c0f7_c c0.Arc) (h_c0f8 : RS w [] boolC 1 c0f8_b c0f8_n c0f8_c c0.Back) (h_p1f0 : RS w [] (intC .i64) 1 p1f0_b p1f0_n p1f0_c p1.Res) (h_p1f1 : RS w [] (intC .i64) 1 p1f1_b p1f1_n p1f1_c p1.Ex) (h_p1f2 : RS w [] (intC .i64) 1 p1f2_b p1f2_n p1f2_c p1.H) {r0 : Bool} (H : m_pre_stuck c0 p1 u2 = some r0) : Fnc Try.prog 70 #[.agg #[.int .i64 c0.N, .int .i64 c0.S, .int .i64 c0.T, .slice c0f3_b c0f3_n c0f3_c, .slice c0f4_b c0f4_n c0f4_c, .slice c0f5_b c0f5_n c0f5_c, .slice c0f6_b c0f6_n c0f6_c, .slice c0f7_b c0f7_n c0f7_c, .slice c0f8_b c0f8_n c0f8_c], .agg #[.slice p1f0_b p1f0_n p1f0_c, .slice p1f1_b p1f1_n p1f1_c, .slice p1f2_b p1f2_n p1f2_c], .int .i64 u2] w [] (fun v N => v = .bool r0 ∧ N = []) := by
  unfold m_pre_stuck at H
  refine Fnc.enterM (vs := [.agg #[.int .i64 c0.N, .int .i64 c0.S, .int .i64 c0.T, .slice c0f3_b c0f3_n c0f3_c, .slice c0f4_b c0f4_n c0f4_c, .slice c0f5_b c0f5_n c0f5_c, .slice c0f6_b c0f6_n c0f6_c, .slice c0f7_b c0f7_n c0f7_c, .slice c0f8_b c0f8_n c0f8_c], .agg #[.slice p1f0_b p1f0_n p1f0_c, .slice p1f1_b p1f1_n p1f1_c, .slice p1f2_b p1f2_n p1f2_c], .int .i64 u2]) Try.func70 rfl rfl (Inv.refl w) ?_
  refine T.seq ?_
  refine T.regionL (ll := [0, 1, 2, 3]) rfl ?_
  refine TO.boxA rfl rfl rfl rfl ?_; intro b1
  refine TO.boxA rfl rfl rfl rfl ?_; intro b3
  refine TO.box rfl rfl rfl rfl ?_; intro b5
  refine TO.alloc rfl rfl rfl TWBS7.z4 ?_; intro b7
  refine TO.done ?_
  refine X.seq_normal ?_
  refine T.seq ?_
  refine T.seq ?_
  obtain ⟨⟨⟩, e9, H⟩ := bd_some H
  refine T.regionL (ll := [0, 1, 2]) rfl ?_
  refine TO.loadA rfl rfl rfl rfl TWBS7.a32 mm3 rfl ?_
  refine TO.load1 rfl rfl rfl rfl TWBS7.s3 mm1 rfl ?_
  refine TO.callX TWBS7.c59 rfl rfl rfl rfl (fun wc hwc => w_pre_arcs (c0 := c0) (u1 := u2) wc (h_c0f3.mono hwc) (h_c0f4.mono hwc) (h_c0f5.mono hwc) (h_c0f6.mono hwc) (h_c0f7.mono hwc) (h_c0f8.mono hwc) e9) ?_
  rintro _ _ ⟨b10, b11, rfl, rfl⟩
  refine TO.done ?_
  refine X.seq_normal ?_
  refine T.block ?_
  obtain ⟨t_1, e_1, K_1⟩ := bd_some H
  refine T.rangeFunc (S := (Unit)) (X := (Unit)) (V := Int) rfl TWBS7.c97 rfl rfl (fun v => [.int .i64 v]) (fun _ => rfl) (fun s v => m_pre_stuck_y1 c0 p1 u2 v) (fun t Hq => match t with | .inl _ => ∃ (u14 : Unit), Hq = [(some b7, .cells #[.bool false] 4 (0, 0))] | .inr _ => ∃ (u14 : Unit), Hq = [(some b7, .cells #[.bool false] 4 (0, 0))]) (fun _ => .ret) () t_1 [(some b7, .cells #[.bool false] 4 (0, 0))] [(some b10, .cells #[.int .i64 c0.N, .int .i64 c0.S, .int .i64 c0.T, .slice c0f3_b c0f3_n c0f3_c, .slice c0f4_b c0f4_n c0f4_c, .slice c0f5_b c0f5_n c0f5_c, .slice c0f6_b c0f6_n c0f6_c, .slice c0f7_b c0f7_n c0f7_c, .slice c0f8_b c0f8_n c0f8_c] 32 (0, 0)), (some b11, .cells #[.int .i64 u2] 3 (0, 0)), (some b5, .cells #[.int .i64 u2] 3 (0, 0)), (some b3, .cells #[.slice p1f0_b p1f0_n p1f0_c, .slice p1f1_b p1f1_n p1f1_c, .slice p1f2_b p1f2_n p1f2_c] 29 (0, 0)), (some b1, .cells #[.int .i64 c0.N, .int .i64 c0.S, .int .i64 c0.T, .slice c0f3_b c0f3_n c0f3_c, .slice c0f4_b c0f4_n c0f4_c, .slice c0f5_b c0f5_n c0f5_c, .slice c0f6_b c0f6_n c0f6_c, .slice c0f7_b c0f7_n c0f7_c, .slice c0f8_b c0f8_n c0f8_c] 32 (0, 0))] ⟨(), rfl⟩ (Pick.cons tk2 (Pick.refl _)) ?_ ?_ ?_ ?_
  · intro lp wc J_ H0_ hJ_ hin_ hY_ lo_ hwc hH0
    subst hH0
    exact w_pre_arcs_1 (yy_ := (fun s v => m_pre_stuck_y1 c0 p1 u2 v)) (c1 := c0) (c2 := u2) (tt_ := .inl ()) (J_ := J_) wc hin_ hJ_ hY_ (h_c0f3.monoM (by decide) hwc (List.Perm.refl _) rfl) (h_c0f4.monoM (by decide) hwc (List.Perm.refl _) rfl) (h_c0f5.monoM (by decide) hwc (List.Perm.refl _) rfl) (h_c0f6.monoM (by decide) hwc (List.Perm.refl _) rfl) (h_c0f7.monoM (by decide) hwc (List.Perm.refl _) rfl) (h_c0f8.monoM (by decide) hwc (List.Perm.refl _) rfl) (hwc.hbM (cs := [.int .i64 c0.N, .int .i64 c0.S, .int .i64 c0.T, .slice c0f3_b c0f3_n c0f3_c, .slice c0f4_b c0f4_n c0f4_c, .slice c0f5_b c0f5_n c0f5_c, .slice c0f6_b c0f6_n c0f6_c, .slice c0f7_b c0f7_n c0f7_c, .slice c0f8_b c0f8_n c0f8_c]) (List.Perm.refl _) rfl mm0) (hwc.hbM (cs := [.int .i64 u2]) (List.Perm.refl _) rfl mm1) e_1
  · rintro lp w_1 _ y15 r_1 _ hy ⟨u14, rfl⟩ hs_1 ho_1
    refine ⟨[(3, .pointer (some ⟨b1, 0, none⟩)), (4, .pointer (some ⟨b3, 0, none⟩)), (5, .pointer (some ⟨b5, 0, none⟩)), (6, .pointer (some ⟨b7, 0, none⟩)), (11, .int .i64 y15), (7, .int .i64 y15)], [(some b7, .cells #[.bool false] 4 (0, 0))], ?_, ?_⟩
    ·
      refine T.regionL (ll := [0]) rfl ?_
      refine TO.assign rfl rfl rfl rfl ?_
      refine TO.done ?_
      exact X.asg (AllF.cons rfl (AllF.cons rfl (AllF.cons rfl (AllF.cons rfl (AllF.cons rfl (AllF.cons rfl AllF.nil)))))) (Pick.refl _)
    · intro w_2 hs_2 hwc
      have h_c0f3 := h_c0f3.monoM (by decide) hwc (List.Perm.refl _) rfl
      have h_c0f4 := h_c0f4.monoM (by decide) hwc (List.Perm.refl _) rfl
      have h_c0f5 := h_c0f5.monoM (by decide) hwc (List.Perm.refl _) rfl
      have h_c0f6 := h_c0f6.monoM (by decide) hwc (List.Perm.refl _) rfl
      have h_c0f7 := h_c0f7.monoM (by decide) hwc (List.Perm.refl _) rfl
      have h_c0f8 := h_c0f8.monoM (by decide) hwc (List.Perm.refl _) rfl
      have h_p1f0 := h_p1f0.monoM (by decide) hwc (List.Perm.refl _) rfl
      have h_p1f1 := h_p1f1.monoM (by decide) hwc (List.Perm.refl _) rfl
      have h_p1f2 := h_p1f2.monoM (by decide) hwc (List.Perm.refl _) rfl
      have hb_e2 := hwc.hbM (cs := [.int .i64 c0.N, .int .i64 c0.S, .int .i64 c0.T, .slice c0f3_b c0f3_n c0f3_c, .slice c0f4_b c0f4_n c0f4_c, .slice c0f5_b c0f5_n c0f5_c, .slice c0f6_b c0f6_n c0f6_c, .slice c0f7_b c0f7_n c0f7_c, .slice c0f8_b c0f8_n c0f8_c]) (List.Perm.refl _) rfl mm4
      have hb_e4 := hwc.hbM (cs := [.slice p1f0_b p1f0_n p1f0_c, .slice p1f1_b p1f1_n p1f1_c, .slice p1f2_b p1f2_n p1f2_c]) (List.Perm.refl _) rfl mm3
      have hb_e6 := hwc.hbM (cs := [.int .i64 u2]) (List.Perm.refl _) rfl mm2
      have H : m_pre_stuck_y1 c0 p1 u2 y15 = some r_1 := hy
      unfold m_pre_stuck_y1 at H
      refine T.block ?_
      refine T.seq ?_
      obtain ⟨r16, e17, H⟩ := bd_some H
      refine T.regionL (ll := [0, 1, 2, 3, 4]) rfl ?_
      refine TO.ldHBA hb_e2 rfl rfl rfl rfl rfl TWBS7.a32 ?_
      refine TO.ldHBA hb_e4 rfl rfl rfl rfl rfl TWBS7.a29 ?_
      refine TO.ldHB hb_e6 rfl rfl rfl rfl rfl TWBS7.s3 ?_
      refine TO.move rfl rfl rfl rfl ?_
      refine TO.callX TWBS7.c67 rfl rfl rfl rfl (fun wc hwc => w_pre_admissible (c0 := c0) (p1 := p1) (u2 := u2) (a3 := y15) wc (h_c0f3.mono hwc) (h_c0f4.mono hwc) (h_c0f5.mono hwc) (h_c0f6.mono hwc) (h_c0f7.mono hwc) (h_c0f8.mono hwc) (h_p1f0.mono hwc) (h_p1f1.mono hwc) (h_p1f2.mono hwc) e17) ?_
      rintro _ _ ⟨rfl, rfl⟩
      refine TO.done ?_
      refine X.seq_normal ?_
      rcases ite_some H with ⟨g18, H⟩ | ⟨g18, H⟩
      ·
        refine T.condT rfl g18 ?_
        refine T.seq ?_
        refine T.regionL (ll := [0]) rfl ?_
        refine TO.store1n (cs' := [.bool false]) rfl rfl rfl rfl tk0 TWBS7.n4 rfl rfl rfl ?_
        refine TO.done ?_
        refine X.seq_normal ?_
        refine T.trim (AllF.cons (t := 6) rfl AllF.nil) ?_
        refine T.ret ?_
        refine X.block_ret ?_
        exact X.rfRet H rfl ⟨(), rfl⟩ (Pick.cons tk0 Pick.nil)
      ·
        refine T.condF rfl (Bool.eq_false_iff.2 g18) ?_
        refine T.skip ?_
        refine X.block_normal ?_
        exact X.rfNext H ⟨(), rfl⟩ (Pick.cons tk0 Pick.nil)
  ·
    rintro _ ht rr_1 _ ⟨u14, rfl⟩
    subst ht
    have H : (Option.bind (m_pre_active c0 p1 u2) fun r19 =>
  some r19) = some r0 := K_1
    refine X.reheap (H := [(some b7, .cells #[.bool false] 4 (0, 0)), (some rr_1, mkO), (some b10, .cells #[.int .i64 c0.N, .int .i64 c0.S, .int .i64 c0.T, .slice c0f3_b c0f3_n c0f3_c, .slice c0f4_b c0f4_n c0f4_c, .slice c0f5_b c0f5_n c0f5_c, .slice c0f6_b c0f6_n c0f6_c, .slice c0f7_b c0f7_n c0f7_c, .slice c0f8_b c0f8_n c0f8_c] 32 (0, 0)), (some b11, .cells #[.int .i64 u2] 3 (0, 0)), (some b5, .cells #[.int .i64 u2] 3 (0, 0)), (some b3, .cells #[.slice p1f0_b p1f0_n p1f0_c, .slice p1f1_b p1f1_n p1f1_c, .slice p1f2_b p1f2_n p1f2_c] 29 (0, 0)), (some b1, .cells #[.int .i64 c0.N, .int .i64 c0.S, .int .i64 c0.T, .slice c0f3_b c0f3_n c0f3_c, .slice c0f4_b c0f4_n c0f4_c, .slice c0f5_b c0f5_n c0f5_c, .slice c0f6_b c0f6_n c0f6_c, .slice c0f7_b c0f7_n c0f7_c, .slice c0f8_b c0f8_n c0f8_c] 32 (0, 0))]) rfl ?_
    refine X.block_normal ?_
    refine X.seq_normal ?_
    refine T.seq ?_
    obtain ⟨r19, e20, H⟩ := bd_some H
    refine T.regionL (ll := [0, 1, 2, 3, 4]) rfl ?_
    refine TO.loadA rfl rfl rfl rfl TWBS7.a32 mm6 rfl ?_
    refine TO.loadA rfl rfl rfl rfl TWBS7.a29 mm5 rfl ?_
    refine TO.load1 rfl rfl rfl rfl TWBS7.s3 mm4 rfl ?_
    refine TO.callX TWBS7.c66 rfl rfl rfl rfl (fun wc hwc => w_pre_active (c0 := c0) (p1 := p1) (u2 := u2) wc (h_c0f3.mono hwc) (h_c0f4.mono hwc) (h_c0f5.mono hwc) (h_c0f6.mono hwc) (h_c0f7.mono hwc) (h_c0f8.mono hwc) (h_p1f0.mono hwc) (h_p1f1.mono hwc) (h_p1f2.mono hwc) e20) ?_
    rintro _ _ ⟨rfl, rfl⟩
    refine TO.store1n (cs' := [.bool r19]) rfl rfl rfl rfl tk0 TWBS7.n4 rfl rfl rfl ?_
    refine TO.done ?_
    refine X.seq_normal ?_
    refine T.trim (AllF.cons (t := 6) rfl AllF.nil) ?_
    refine T.ret ?_
    obtain rfl := ret1 H
    exact X.retM1 [rr_1] rfl rfl rfl rfl rfl (Pick.cons tk1 (Pick.refl _)) (Res.cell1 rfl TWBS7.s4 mm0 rfl) Pick.nil ⟨rfl, rfl⟩
  ·
    rintro _ ht rr_1 _ ⟨u14, rfl⟩
    subst ht
    have H : (some false) = some r0 := K_1
    refine T.reheap (H := [(some b7, .cells #[.bool false] 4 (0, 0)), (some rr_1, mkO), (some b10, .cells #[.int .i64 c0.N, .int .i64 c0.S, .int .i64 c0.T, .slice c0f3_b c0f3_n c0f3_c, .slice c0f4_b c0f4_n c0f4_c, .slice c0f5_b c0f5_n c0f5_c, .slice c0f6_b c0f6_n c0f6_c, .slice c0f7_b c0f7_n c0f7_c, .slice c0f8_b c0f8_n c0f8_c] 32 (0, 0)), (some b11, .cells #[.int .i64 u2] 3 (0, 0)), (some b5, .cells #[.int .i64 u2] 3 (0, 0)), (some b3, .cells #[.slice p1f0_b p1f0_n p1f0_c, .slice p1f1_b p1f1_n p1f1_c, .slice p1f2_b p1f2_n p1f2_c] 29 (0, 0)), (some b1, .cells #[.int .i64 c0.N, .int .i64 c0.S, .int .i64 c0.T, .slice c0f3_b c0f3_n c0f3_c, .slice c0f4_b c0f4_n c0f4_c, .slice c0f5_b c0f5_n c0f5_c, .slice c0f6_b c0f6_n c0f6_c, .slice c0f7_b c0f7_n c0f7_c, .slice c0f8_b c0f8_n c0f8_c] 32 (0, 0))]) rfl ?_
    refine T.ret ?_
    refine X.block_ret ?_
    refine X.then_ret ?_
    obtain rfl := ret1 H
    exact X.retM1 [rr_1] rfl rfl rfl rfl rfl (Pick.cons tk1 (Pick.refl _)) (Res.cell1 rfl TWBS7.s4 mm0 rfl) Pick.nil ⟨rfl, rfl⟩
/-- acequia/pre.Lift -/
theorem w_pre_Lift {c0 : Csr} {p1 : Pre} {u2 : Int} {c0f3_b : Option Addr} {c0f3_n : Nat} {c0f3_c : Nat} {c0f4_b : Option Addr} {c0f4_n : Nat} {c0f4_c : Nat} {c0f5_b : Option Addr} {c0f5_n : Nat} {c0f5_c : Nat} {c0f6_b : Option Addr} {c0f6_n : Nat} {c0f6_c : Nat} {c0f7_b : Option Addr} {c0f7_n : Nat} {c0f7_c : Nat} {c0f8_b : Option Addr} {c0f8_n : Nat} {c0f8_c : Nat} {p1f0_b : Option Addr} {p1f0_n : Nat} {p1f0_c : Nat} {p1f1_b : Option Addr} {p1f1_n : Nat} {p1f1_c : Nat} {p1f2_b : Option Addr} {p1f2_n : Nat} {p1f2_c : Nat} (w : World) (h_c0f3 : RS w [] (intC .i64) 1 c0f3_b c0f3_n c0f3_c c0.First) (h_c0f4 : RS w [] (intC .i64) 1 c0f4_b c0f4_n c0f4_c c0.Head) (h_c0f5 : RS w [] (intC .i64) 1 c0f5_b c0f5_n c0f5_c c0.Rev) (h_c0f6 : RS w [] (intC .i64) 1 c0f6_b c0f6_n c0f6_c c0.Cap) (h_c0f7 : RS w [] (intC .i64) 1 c0f7_b c0f7_n c0f7_c c0.Arc) (h_c0f8 : RS w [] boolC 1 c0f8_b c0f8_n c0f8_c c0.Back) (h_p1f0 : RS w [] (intC .i64) 1 p1f0_b p1f0_n p1f0_c p1.Res) (h_p1f1 : RS w [] (intC .i64) 1 p1f1_b p1f1_n p1f1_c p1.Ex) (h_p1f2 : RS w [] (intC .i64) 1 p1f2_b p1f2_n p1f2_c p1.H) {r0 : Pre} {r1 : Int} (H : m_pre_Lift c0 p1 u2 = some (r0, r1)) : Fnc Try.prog 30 #[.agg #[.int .i64 c0.N, .int .i64 c0.S, .int .i64 c0.T, .slice c0f3_b c0f3_n c0f3_c, .slice c0f4_b c0f4_n c0f4_c, .slice c0f5_b c0f5_n c0f5_c, .slice c0f6_b c0f6_n c0f6_c, .slice c0f7_b c0f7_n c0f7_c, .slice c0f8_b c0f8_n c0f8_c], .agg #[.slice p1f0_b p1f0_n p1f0_c, .slice p1f1_b p1f1_n p1f1_c, .slice p1f2_b p1f2_n p1f2_c], .int .i64 u2] w [] (fun v N => ∃ (ob_0 : Option Nat) (n_0 : Nat) (c_0 : Nat) (j_0 : List Value) (ob_4 : Option Nat) (n_4 : Nat) (c_4 : Nat) (j_4 : List Value) (ob_8 : Option Nat) (n_8 : Nat) (c_8 : Nat) (j_8 : List Value), v = .tuple #[.agg #[.slice (sb ob_0) n_0 c_0, .slice (sb ob_4) n_4 c_4, .slice (sb ob_8) n_8 c_8], .int .i64 r1] ∧ N = [(ob_0, .cells (arr (intC .i64) r0.Res j_0).toArray 2 (0, 0)), (ob_4, .cells (arr (intC .i64) r0.Ex j_4).toArray 2 (0, 0)), (ob_8, .cells (arr (intC .i64) r0.H j_8).toArray 3 (0, 0))] ∧ r0.Res.length = n_0 ∧ n_0 ≤ c_0 ∧ j_0.length = (c_0 - n_0) * 1 ∧ (ob_0 = none → c_0 = 0) ∧ r0.Ex.length = n_4 ∧ n_4 ≤ c_4 ∧ j_4.length = (c_4 - n_4) * 1 ∧ (ob_4 = none → c_4 = 0) ∧ r0.H.length = n_8 ∧ n_8 ≤ c_8 ∧ j_8.length = (c_8 - n_8) * 1 ∧ (ob_8 = none → c_8 = 0)) := by
  unfold m_pre_Lift at H
  refine Fnc.enterM (vs := [.agg #[.int .i64 c0.N, .int .i64 c0.S, .int .i64 c0.T, .slice c0f3_b c0f3_n c0f3_c, .slice c0f4_b c0f4_n c0f4_c, .slice c0f5_b c0f5_n c0f5_c, .slice c0f6_b c0f6_n c0f6_c, .slice c0f7_b c0f7_n c0f7_c, .slice c0f8_b c0f8_n c0f8_c], .agg #[.slice p1f0_b p1f0_n p1f0_c, .slice p1f1_b p1f1_n p1f1_c, .slice p1f2_b p1f2_n p1f2_c], .int .i64 u2]) Try.func30 rfl rfl (Inv.refl w) ?_
  refine T.seq ?_
  refine T.regionL (ll := [0, 1, 2, 3]) rfl ?_
  refine TO.boxA rfl rfl rfl rfl ?_; intro b1
  refine TO.boxA rfl rfl rfl rfl ?_; intro b3
  refine TO.allocA rfl rfl rfl TWBS7.z29 ?_; intro b5
  refine TO.assign rfl rfl rfl rfl ?_
  refine TO.done ?_
  refine X.seq_normal ?_
  refine T.seq ?_
  refine T.block ?_
  refine T.seq ?_
  refine T.meetSE1 (fun (x8 : Bool) => m_pre_Lift_j1 c0 p1 u2 x8 = some (r0, r1)) (fun (x8 : Bool) => [(2, .int .i64 u2), (3, .pointer (some ⟨b1, 0, none⟩)), (4, .pointer (some ⟨b3, 0, none⟩)), (6, .pointer (some ⟨b5, 0, none⟩)), (11, .bool x8)]) (fun (x8 : Bool) => [(some b1, .cells #[.int .i64 c0.N, .int .i64 c0.S, .int .i64 c0.T, .slice c0f3_b c0f3_n c0f3_c, .slice c0f4_b c0f4_n c0f4_c, .slice c0f5_b c0f5_n c0f5_c, .slice c0f6_b c0f6_n c0f6_c, .slice c0f7_b c0f7_n c0f7_c, .slice c0f8_b c0f8_n c0f8_c] 32 (0, 0)), (some b3, .cells #[.slice p1f0_b p1f0_n p1f0_c, .slice p1f1_b p1f1_n p1f1_c, .slice p1f2_b p1f2_n p1f2_c] 29 (0, 0)), (some b5, .cells #[.slice none 0 0, .slice none 0 0, .slice none 0 0] 29 (0, 0))]) ?_ ?_
  ·
    rcases ite_some H with ⟨g7, H⟩ | ⟨g7, H⟩
    ·
      refine T.regionL (ll := [0, 1, 2, 3, 4, 5, 6, 7, 8]) rfl ?_
      refine TO.move rfl rfl rfl rfl ?_
      refine TO.bin rfl rfl rfl rfl rfl rfl ?_
      refine TO.move rfl rfl rfl rfl ?_
      refine TO.decB (t := 14) (b' := true) rfl (decide_eq_true g7) ?_
      refine TO.shut rfl rfl rfl rfl ?_
      refine TO.shut rfl rfl rfl rfl ?_
      refine TO.shut rfl rfl rfl rfl ?_
      refine TO.shut rfl rfl rfl rfl ?_
      refine TO.pickT rfl rfl rfl rfl rfl ?_
      refine TO.assign rfl rfl rfl rfl ?_
      refine TO.done ?_
      exact X.metE1 true H (AllF.cons rfl (AllF.cons rfl (AllF.cons rfl (AllF.cons rfl (AllF.cons rfl AllF.nil))))) (Pick.cons tk2 (Pick.cons tk1 (Pick.cons tk0 Pick.nil)))
    ·
      refine T.regionL (ll := [0, 1, 2, 3, 4, 5, 6, 7, 8]) rfl ?_
      refine TO.move rfl rfl rfl rfl ?_
      refine TO.bin rfl rfl rfl rfl rfl rfl ?_
      refine TO.move rfl rfl rfl rfl ?_
      refine TO.decB (t := 14) (b' := false) rfl (decide_eq_false g7) ?_
      refine TO.move rfl rfl rfl rfl ?_
      refine TO.fieldAddr0 rfl rfl rfl rfl TWBS7.f32_0 ?_
      refine TO.load1 rfl rfl rfl rfl TWBS7.s3 mm2 rfl ?_
      refine TO.bin rfl rfl rfl rfl rfl rfl ?_
      refine TO.pickF rfl rfl rfl rfl rfl ?_
      refine TO.assign rfl rfl rfl rfl ?_
      refine TO.done ?_
      exact X.metE1 (decide (c0.N ≤ u2)) H (AllF.cons rfl (AllF.cons rfl (AllF.cons rfl (AllF.cons rfl (AllF.cons rfl AllF.nil))))) (Pick.cons tk2 (Pick.cons tk1 (Pick.cons tk0 Pick.nil)))
  · rintro x8 H
    unfold m_pre_Lift_j1 at H
    rcases ite_some H with ⟨g9, H⟩ | ⟨g9, H⟩
    ·
      refine T.condT rfl g9 ?_
      refine T.seq ?_
      refine T.regionL (ll := [0, 1, 2]) rfl ?_
      refine TO.buildS (t := 29) [.slice none 0 0, .slice none 0 0, .slice none 0 0] [0, 1, 2] rfl rfl rfl rfl (by simp only [setAll, setCells, Value.cells, List.toList_toArray, List.getD_cons_zero, List.getD_cons_succ, List.set_cons_zero, List.set_cons_succ]; rfl) (by kernel_rfl) ?_
      refine TO.storeA rfl rfl rfl rfl tk2 TWBS7.n29 rfl rfl rfl ?_
      refine TO.assign rfl rfl rfl rfl ?_
      refine TO.done ?_
      refine X.seq_normal ?_
      refine T.ret ?_
      refine X.block_ret ?_
      refine X.then_ret ?_
      obtain ⟨rfl, rfl⟩ := ret2 H
      exact X.retM2 [] rfl rfl rfl rfl rfl (Pick.refl _) (Res.cellA rfl TWBS7.a29 mm0 rfl) (Res.tmp rfl) (Pick.none (Pick.none (Pick.none Pick.nil))) ⟨none, 0, 0, ([]), none, 0, 0, ([]), none, 0, 0, ([]), rfl, rfl, rfl, (Nat.le_refl _), (zeroJ 0 _), (fun _ => rfl), rfl, (Nat.le_refl _), (zeroJ 0 _), (fun _ => rfl), rfl, (Nat.le_refl _), (zeroJ 0 _), (fun _ => rfl)⟩
    ·
      refine T.condF rfl (Bool.eq_false_iff.2 g9) ?_
      refine T.seq ?_
      obtain ⟨r10, e11, H⟩ := bd_some H
      refine T.regionL (ll := [0, 1, 2, 3, 4, 5]) rfl ?_
      refine TO.loadA rfl rfl rfl rfl TWBS7.a32 mm0 rfl ?_
      refine TO.loadA rfl rfl rfl rfl TWBS7.a29 mm1 rfl ?_
      refine TO.move rfl rfl rfl rfl ?_
      refine TO.callX TWBS7.c70 rfl rfl rfl rfl (fun wc hwc => w_pre_stuck (c0 := c0) (p1 := p1) (u2 := u2) wc (h_c0f3.mono hwc) (h_c0f4.mono hwc) (h_c0f5.mono hwc) (h_c0f6.mono hwc) (h_c0f7.mono hwc) (h_c0f8.mono hwc) (h_p1f0.mono hwc) (h_p1f1.mono hwc) (h_p1f2.mono hwc) e11) ?_
      rintro _ _ ⟨rfl, rfl⟩
      refine TO.not rfl rfl rfl rfl ?_
      refine TO.assign rfl rfl rfl rfl ?_
      refine TO.done ?_
      refine X.seq_normal ?_
      rcases ite_some H with ⟨g12, H⟩ | ⟨g12, H⟩
      ·
        refine T.condT rfl g12 ?_
        refine T.seq ?_
        refine T.regionL (ll := [0, 1, 2]) rfl ?_
        refine TO.buildS (t := 29) [.slice none 0 0, .slice none 0 0, .slice none 0 0] [0, 1, 2] rfl rfl rfl rfl (by simp only [setAll, setCells, Value.cells, List.toList_toArray, List.getD_cons_zero, List.getD_cons_succ, List.set_cons_zero, List.set_cons_succ]; rfl) (by kernel_rfl) ?_
        refine TO.storeA rfl rfl rfl rfl tk2 TWBS7.n29 rfl rfl rfl ?_
        refine TO.assign rfl rfl rfl rfl ?_
        refine TO.done ?_
        refine X.seq_normal ?_
        refine T.trim (AllF.cons (t := 6) rfl (AllF.cons (t := 7) rfl AllF.nil)) ?_
        refine T.ret ?_
        refine X.block_ret ?_
        refine X.then_ret ?_
        obtain ⟨rfl, rfl⟩ := ret2 H
        exact X.retM2 [] rfl rfl rfl rfl rfl (Pick.refl _) (Res.cellA rfl TWBS7.a29 mm0 rfl) (Res.tmp rfl) (Pick.none (Pick.none (Pick.none Pick.nil))) ⟨none, 0, 0, ([]), none, 0, 0, ([]), none, 0, 0, ([]), rfl, rfl, rfl, (Nat.le_refl _), (zeroJ 0 _), (fun _ => rfl), rfl, (Nat.le_refl _), (zeroJ 0 _), (fun _ => rfl), rfl, (Nat.le_refl _), (zeroJ 0 _), (fun _ => rfl)⟩
      ·
        refine T.condF rfl (Bool.eq_false_iff.2 g12) ?_
        refine T.skip ?_
        refine X.block_normal ?_
        refine X.seq_normal ?_
        refine T.seq ?_
        obtain ⟨g13, H⟩ := gd_some H
        refine T.regionL (ll := [0, 1, 2, 3, 4]) rfl ?_
        refine TO.fieldAddr0 rfl rfl rfl rfl TWBS7.f32_0 ?_
        refine TO.load1 rfl rfl rfl rfl TWBS7.s3 mm0 rfl ?_
        refine TO.mulG g13 rfl rfl rfl rfl rfl ?_
        refine TO.alloc rfl rfl rfl TWBS7.z3 ?_; intro b14
        refine TO.store1n (cs' := [.int .i64 (2 * c0.N)]) rfl rfl rfl rfl tk0 TWBS7.n3 rfl rfl rfl ?_
        refine TO.done ?_
        refine X.seq_normal ?_
        refine T.trim (AllF.cons (t := 2) rfl (AllF.cons (t := 3) rfl (AllF.cons (t := 4) rfl (AllF.cons (t := 6) rfl (AllF.cons (t := 8) rfl AllF.nil))))) ?_
        refine T.seq ?_
        refine T.seq ?_
        obtain ⟨⟨⟩, e16, H⟩ := bd_some H
        refine T.regionL (ll := [0, 1, 2]) rfl ?_
        refine TO.loadA rfl rfl rfl rfl TWBS7.a32 mm1 rfl ?_
        refine TO.move rfl rfl rfl rfl ?_
        refine TO.callX TWBS7.c59 rfl rfl rfl rfl (fun wc hwc => w_pre_arcs (c0 := c0) (u1 := u2) wc (h_c0f3.mono hwc) (h_c0f4.mono hwc) (h_c0f5.mono hwc) (h_c0f6.mono hwc) (h_c0f7.mono hwc) (h_c0f8.mono hwc) e16) ?_
        rintro _ _ ⟨b17, b18, rfl, rfl⟩
        refine TO.done ?_
        refine X.seq_normal ?_
        refine T.block ?_
        obtain ⟨t_2, e_2, K_2⟩ := bd_some H
        refine T.rangeFunc (S := (Int)) (X := (Empty)) (V := Int) rfl TWBS7.c97 rfl rfl (fun v => [.int .i64 v]) (fun _ => rfl) (fun s v => m_pre_Lift_y2 c0 p1 s v) (fun t Hq => match t with | .inl least21 => Hq = [(some b14, .cells #[.int .i64 least21] 3 (0, 0))] | .inr x => nomatch x) (fun x => nomatch x) (2 * c0.N) t_2 [(some b14, .cells #[.int .i64 (2 * c0.N)] 3 (0, 0))] [(some b17, .cells #[.int .i64 c0.N, .int .i64 c0.S, .int .i64 c0.T, .slice c0f3_b c0f3_n c0f3_c, .slice c0f4_b c0f4_n c0f4_c, .slice c0f5_b c0f5_n c0f5_c, .slice c0f6_b c0f6_n c0f6_c, .slice c0f7_b c0f7_n c0f7_c, .slice c0f8_b c0f8_n c0f8_c] 32 (0, 0)), (some b18, .cells #[.int .i64 u2] 3 (0, 0)), (some b1, .cells #[.int .i64 c0.N, .int .i64 c0.S, .int .i64 c0.T, .slice c0f3_b c0f3_n c0f3_c, .slice c0f4_b c0f4_n c0f4_c, .slice c0f5_b c0f5_n c0f5_c, .slice c0f6_b c0f6_n c0f6_c, .slice c0f7_b c0f7_n c0f7_c, .slice c0f8_b c0f8_n c0f8_c] 32 (0, 0)), (some b3, .cells #[.slice p1f0_b p1f0_n p1f0_c, .slice p1f1_b p1f1_n p1f1_c, .slice p1f2_b p1f2_n p1f2_c] 29 (0, 0)), (some b5, .cells #[.slice none 0 0, .slice none 0 0, .slice none 0 0] 29 (0, 0))] rfl (Pick.cons tk2 (Pick.refl _)) ?_ ?_ ?_ ?_
        · intro lp wc J_ H0_ hJ_ hin_ hY_ lo_ hwc hH0
          subst hH0
          exact w_pre_arcs_1 (yy_ := (fun s v => m_pre_Lift_y2 c0 p1 s v)) (c1 := c0) (c2 := u2) (tt_ := .inl (2 * c0.N)) (J_ := J_) wc hin_ hJ_ hY_ (h_c0f3.monoM (by decide) hwc (List.Perm.refl _) rfl) (h_c0f4.monoM (by decide) hwc (List.Perm.refl _) rfl) (h_c0f5.monoM (by decide) hwc (List.Perm.refl _) rfl) (h_c0f6.monoM (by decide) hwc (List.Perm.refl _) rfl) (h_c0f7.monoM (by decide) hwc (List.Perm.refl _) rfl) (h_c0f8.monoM (by decide) hwc (List.Perm.refl _) rfl) (hwc.hbM (cs := [.int .i64 c0.N, .int .i64 c0.S, .int .i64 c0.T, .slice c0f3_b c0f3_n c0f3_c, .slice c0f4_b c0f4_n c0f4_c, .slice c0f5_b c0f5_n c0f5_c, .slice c0f6_b c0f6_n c0f6_c, .slice c0f7_b c0f7_n c0f7_c, .slice c0f8_b c0f8_n c0f8_c]) (List.Perm.refl _) rfl mm0) (hwc.hbM (cs := [.int .i64 u2]) (List.Perm.refl _) rfl mm1) e_2
        · rintro lp w_1 least21 y22 r_2 _ hy rfl hs_1 ho_1
          refine ⟨[(2, .int .i64 u2), (3, .pointer (some ⟨b1, 0, none⟩)), (4, .pointer (some ⟨b3, 0, none⟩)), (6, .pointer (some ⟨b5, 0, none⟩)), (8, .pointer (some ⟨b14, 0, none⟩)), (34, .int .i64 y22), (9, .int .i64 y22)], [(some b14, .cells #[.int .i64 least21] 3 (0, 0))], ?_, ?_⟩
          ·
            refine T.regionL (ll := [0]) rfl ?_
            refine TO.assign rfl rfl rfl rfl ?_
            refine TO.done ?_
            exact X.asg (AllF.cons rfl (AllF.cons rfl (AllF.cons rfl (AllF.cons rfl (AllF.cons rfl (AllF.cons rfl (AllF.cons rfl AllF.nil))))))) (Pick.refl _)
          · intro w_2 hs_2 hwc
            have h_c0f3 := h_c0f3.monoM (by decide) hwc (List.Perm.refl _) rfl
            have h_c0f4 := h_c0f4.monoM (by decide) hwc (List.Perm.refl _) rfl
            have h_c0f5 := h_c0f5.monoM (by decide) hwc (List.Perm.refl _) rfl
            have h_c0f6 := h_c0f6.monoM (by decide) hwc (List.Perm.refl _) rfl
            have h_c0f7 := h_c0f7.monoM (by decide) hwc (List.Perm.refl _) rfl
            have h_c0f8 := h_c0f8.monoM (by decide) hwc (List.Perm.refl _) rfl
            have h_p1f0 := h_p1f0.monoM (by decide) hwc (List.Perm.refl _) rfl
            have h_p1f1 := h_p1f1.monoM (by decide) hwc (List.Perm.refl _) rfl
            have h_p1f2 := h_p1f2.monoM (by decide) hwc (List.Perm.refl _) rfl
            have hb_e2 := hwc.hbM (cs := [.int .i64 c0.N, .int .i64 c0.S, .int .i64 c0.T, .slice c0f3_b c0f3_n c0f3_c, .slice c0f4_b c0f4_n c0f4_c, .slice c0f5_b c0f5_n c0f5_c, .slice c0f6_b c0f6_n c0f6_c, .slice c0f7_b c0f7_n c0f7_c, .slice c0f8_b c0f8_n c0f8_c]) (List.Perm.refl _) rfl mm2
            have hb_e4 := hwc.hbM (cs := [.slice p1f0_b p1f0_n p1f0_c, .slice p1f1_b p1f1_n p1f1_c, .slice p1f2_b p1f2_n p1f2_c]) (List.Perm.refl _) rfl mm3
            have hb_e6 := hwc.hbM (cs := [.slice none 0 0, .slice none 0 0, .slice none 0 0]) (List.Perm.refl _) rfl mm4
            have H : m_pre_Lift_y2 c0 p1 least21 y22 = some r_2 := hy
            unfold m_pre_Lift_y2 at H
            refine T.block ?_
            refine T.seq ?_
            obtain ⟨g23, H⟩ := gd_some H
            refine T.regionL (ll := [0, 1, 2, 3, 4, 5]) rfl ?_
            refine TO.fieldAddr0 rfl rfl rfl rfl TWBS7.f29_0 ?_
            refine TO.ldHB hb_e4 rfl rfl rfl rfl rfl TWBS7.s26 ?_
            refine TO.move rfl rfl rfl rfl ?_
            refine TO.ixR h_p1f0 g23 rfl rfl rfl rfl rfl TWBS7.l26 TWBS7.n2 ?_
            refine TO.ldIR h_p1f0 g23 rfl rfl rfl rfl TWBS7.s2 ?_
            refine TO.bin rfl rfl rfl rfl rfl rfl ?_
            refine TO.done ?_
            refine X.seq_normal ?_
            rcases ite_some H with ⟨g24, H⟩ | ⟨g24, H⟩
            ·
              refine T.condPT rfl g24 ?_
              obtain ⟨g25, H⟩ := gd_some H
              obtain ⟨g26, H⟩ := gd_some H
              refine T.drawS 10 [0, 1, 2, 3, 4, 5, 6, 7, 8, 9] rfl mixed (by kernel_rfl) (by kernel_rfl) rfl (by kernel_rfl) ?_
              refine TQ.load1 rfl rfl rfl rfl TWBS7.s3 mm0 rfl ?_
              refine TQ.fieldAddr0 rfl rfl rfl rfl TWBS7.f29_2 ?_
              refine TQ.ldHB hb_e4 rfl rfl rfl rfl rfl TWBS7.s27 ?_
              refine TQ.fieldAddr0 rfl rfl rfl rfl TWBS7.f32_4 ?_
              refine TQ.ldHB hb_e2 rfl rfl rfl rfl rfl TWBS7.s27 ?_
              refine TQ.move rfl rfl rfl rfl ?_
              refine TQ.ixR h_c0f4 g25 rfl rfl rfl rfl rfl TWBS7.l27 TWBS7.n3 ?_
              refine TQ.ldIR h_c0f4 g25 rfl rfl rfl rfl TWBS7.s3 ?_
              refine TQ.ixR h_p1f2 g26 rfl rfl rfl rfl rfl TWBS7.l27 TWBS7.n3 ?_
              refine TQ.ldIR h_p1f2 g26 rfl rfl rfl rfl TWBS7.s3 ?_
              refine TQ.tail [10, 11] rfl rfl ?_
              refine TO.min2 rfl rfl rfl rfl rfl ?_
              refine TO.store1n (cs' := [.int .i64 (min least21 (p1.H.getD (c0.Head.getD y22.toNat 0).toNat 0))]) rfl rfl rfl rfl tk0 TWBS7.n3 rfl rfl rfl ?_
              refine TO.done ?_
              refine X.block_normal ?_
              exact X.rfNext H rfl (Pick.cons tk0 Pick.nil)
            ·
              refine T.condPF rfl g24 ?_
              refine T.skip ?_
              refine X.block_normal ?_
              exact X.rfNext H rfl (Pick.cons tk0 Pick.nil)
        ·
          rintro least21 ht rr_2 _ rfl
          subst ht
          have H : (Option.bind (m_pre_Copy p1) fun r27 =>
  gd (i64ok (least21 + 1)) <|
  gd (inb u2 r27.H.length) <|
  some ((Pre.mk r27.Res r27.Ex (r27.H.set u2.toNat (least21 + 1))), 0)) = some (r0, r1) := K_2
          refine X.reheap (H := [(some b14, .cells #[.int .i64 least21] 3 (0, 0)), (some rr_2, mkO), (some b17, .cells #[.int .i64 c0.N, .int .i64 c0.S, .int .i64 c0.T, .slice c0f3_b c0f3_n c0f3_c, .slice c0f4_b c0f4_n c0f4_c, .slice c0f5_b c0f5_n c0f5_c, .slice c0f6_b c0f6_n c0f6_c, .slice c0f7_b c0f7_n c0f7_c, .slice c0f8_b c0f8_n c0f8_c] 32 (0, 0)), (some b18, .cells #[.int .i64 u2] 3 (0, 0)), (some b1, .cells #[.int .i64 c0.N, .int .i64 c0.S, .int .i64 c0.T, .slice c0f3_b c0f3_n c0f3_c, .slice c0f4_b c0f4_n c0f4_c, .slice c0f5_b c0f5_n c0f5_c, .slice c0f6_b c0f6_n c0f6_c, .slice c0f7_b c0f7_n c0f7_c, .slice c0f8_b c0f8_n c0f8_c] 32 (0, 0)), (some b3, .cells #[.slice p1f0_b p1f0_n p1f0_c, .slice p1f1_b p1f1_n p1f1_c, .slice p1f2_b p1f2_n p1f2_c] 29 (0, 0)), (some b5, .cells #[.slice none 0 0, .slice none 0 0, .slice none 0 0] 29 (0, 0))]) rfl ?_
          refine X.block_normal ?_
          refine X.seq_normal ?_
          refine T.seq ?_
          obtain ⟨r27, e28, H⟩ := bd_some H
          refine T.regionL (ll := [0, 1, 2, 3]) rfl ?_
          refine TO.loadA rfl rfl rfl rfl TWBS7.a29 mm5 rfl ?_
          refine TO.callX TWBS7.c22 rfl rfl rfl rfl (fun wc hwc => w_pre_Copy (p0 := p1) wc (h_p1f0.mono hwc) (h_p1f1.mono hwc) (h_p1f2.mono hwc) e28) ?_
          rintro _ _ ⟨ob29, n30, c31, j32, ob33, n34, c35, j36, ob37, n38, c39, j40, rfl, rfl, hn41, hc42, hj43, hz44, hn45, hc46, hj47, hz48, hn49, hc50, hj51, hz52⟩
          refine TO.allocA rfl rfl rfl TWBS7.z29 ?_; intro b56
          refine TO.storeA rfl rfl rfl rfl tk0 TWBS7.n29 rfl rfl rfl ?_
          refine TO.done ?_
          refine X.seq_normal ?_
          refine T.seq ?_
          obtain ⟨g58, H⟩ := gd_some H
          obtain ⟨g59, H⟩ := gd_some H
          refine T.regionL (ll := [0, 1, 2, 3, 4, 5, 6]) rfl ?_
          refine TO.fieldAddr0 rfl rfl rfl rfl TWBS7.f29_2 ?_
          refine TO.load1 rfl rfl rfl rfl TWBS7.s27 mm0 rfl ?_
          refine TO.move rfl rfl rfl rfl ?_
          refine TO.load1 rfl rfl rfl rfl TWBS7.s3 mm4 rfl ?_
          refine TO.addG g58 rfl rfl rfl rfl rfl ?_
          refine TO.ixV hz52 hc50 hn49 g59 rfl rfl rfl rfl rfl TWBS7.l27 TWBS7.n3 ?_
          refine TO.stIV hz52 hc50 hn49 g59 rfl rfl rfl rfl tk3 TWBS7.n3 ?_
          refine TO.done ?_
          refine X.seq_normal ?_
          refine T.trim (AllF.cons (t := 6) rfl (AllF.cons (t := 10) rfl AllF.nil)) ?_
          refine T.seq ?_
          refine T.regionL (ll := [0, 1, 2]) rfl ?_
          refine TO.loadA rfl rfl rfl rfl TWBS7.a29 mm1 rfl ?_
          refine TO.storeA rfl rfl rfl rfl tk10 TWBS7.n29 rfl rfl rfl ?_
          refine TO.assign rfl rfl rfl rfl ?_
          refine TO.done ?_
          refine X.seq_normal ?_
          refine T.ret ?_
          obtain ⟨rfl, rfl⟩ := ret2 H
          exact X.retM2 [rr_2] rfl rfl rfl rfl rfl (Pick.cons tk6 (Pick.refl _)) (Res.cellA rfl TWBS7.a29 mm0 rfl) (Res.tmp rfl) (Pick.cons tk3 (Pick.cons tk3 (Pick.cons tk1 Pick.nil))) ⟨ob29, n30, c31, j32, ob33, n34, c35, j36, ob37, n38, c39, j40, rfl, rfl, hn41, hc42, hj43, hz44, hn45, hc46, hj47, hz48, (List.length_set.trans hn49), hc50, hj51, hz52⟩
        ·
          intro x; exact nomatch x
/-- acequia/pre.May$1 -/
theorem w_pre_May_1 {u0 : Int} {c1 : Csr} {c2 : Pre} {c1_k : Nat} {c1f3_b : Option Addr} {c1f3_n : Nat} {c1f3_c : Nat} {c1f4_b : Option Addr} {c1f4_n : Nat} {c1f4_c : Nat} {c1f5_b : Option Addr} {c1f5_n : Nat} {c1f5_c : Nat} {c1f6_b : Option Addr} {c1f6_n : Nat} {c1f6_c : Nat} {c1f7_b : Option Addr} {c1f7_n : Nat} {c1f7_c : Nat} {c1f8_b : Option Addr} {c1f8_n : Nat} {c1f8_c : Nat} {c2_k : Nat} {c2f0_b : Option Addr} {c2f0_n : Nat} {c2f0_c : Nat} {c2f1_b : Option Addr} {c2f1_n : Nat} {c2f1_c : Nat} {c2f2_b : Option Addr} {c2f2_n : Nat} {c2f2_c : Nat} (w : World) (h_c1f3 : RS w [] (intC .i64) 1 c1f3_b c1f3_n c1f3_c c1.First) (h_c1f4 : RS w [] (intC .i64) 1 c1f4_b c1f4_n c1f4_c c1.Head) (h_c1f5 : RS w [] (intC .i64) 1 c1f5_b c1f5_n c1f5_c c1.Rev) (h_c1f6 : RS w [] (intC .i64) 1 c1f6_b c1f6_n c1f6_c c1.Cap) (h_c1f7 : RS w [] (intC .i64) 1 c1f7_b c1f7_n c1f7_c c1.Arc) (h_c1f8 : RS w [] boolC 1 c1f8_b c1f8_n c1f8_c c1.Back) (h_c1_k : HB w [] c1_k [.int .i64 c1.N, .int .i64 c1.S, .int .i64 c1.T, .slice c1f3_b c1f3_n c1f3_c, .slice c1f4_b c1f4_n c1f4_c, .slice c1f5_b c1f5_n c1f5_c, .slice c1f6_b c1f6_n c1f6_c, .slice c1f7_b c1f7_n c1f7_c, .slice c1f8_b c1f8_n c1f8_c]) (h_c2f0 : RS w [] (intC .i64) 1 c2f0_b c2f0_n c2f0_c c2.Res) (h_c2f1 : RS w [] (intC .i64) 1 c2f1_b c2f1_n c2f1_c c2.Ex) (h_c2f2 : RS w [] (intC .i64) 1 c2f2_b c2f2_n c2f2_c c2.H) (h_c2_k : HB w [] c2_k [.slice c2f0_b c2f0_n c2f0_c, .slice c2f1_b c2f1_n c2f1_c, .slice c2f2_b c2f2_n c2f2_c]) {r0 : Bool} (H : m_pre_May_1 u0 c1 c2 = some r0) : Fnc Try.prog 69 #[.int .i64 u0, .pointer (some ⟨c1_k, 0, none⟩), .pointer (some ⟨c2_k, 0, none⟩)] w [] (fun v N => v = .bool r0 ∧ N = []) := by
  unfold m_pre_May_1 at H
  refine Fnc.enter (vs := [.int .i64 u0, .pointer (some ⟨c1_k, 0, none⟩), .pointer (some ⟨c2_k, 0, none⟩)]) Try.func69 rfl rfl (Inv.refl w) ?_
  refine T.seq ?_
  refine T.regionL (ll := [0]) rfl ?_
  refine TO.assign rfl rfl rfl rfl ?_
  refine TO.done ?_
  refine X.seq_normal ?_
  refine T.seq ?_
  obtain ⟨r1, e2, H⟩ := bd_some H
  refine T.regionL (ll := [0, 1, 2, 3, 4]) rfl ?_
  refine TO.ldHBA h_c1_k rfl rfl rfl rfl rfl TWBS7.a32 ?_
  refine TO.ldHBA h_c2_k rfl rfl rfl rfl rfl TWBS7.a29 ?_
  refine TO.move rfl rfl rfl rfl ?_
  refine TO.callX TWBS7.c70 rfl rfl rfl rfl (fun wc hwc => w_pre_stuck (c0 := c1) (p1 := c2) (u2 := u0) wc (h_c1f3.mono hwc) (h_c1f4.mono hwc) (h_c1f5.mono hwc) (h_c1f6.mono hwc) (h_c1f7.mono hwc) (h_c1f8.mono hwc) (h_c2f0.mono hwc) (h_c2f1.mono hwc) (h_c2f2.mono hwc) e2) ?_
  rintro _ _ ⟨rfl, rfl⟩
  refine TO.assign rfl rfl rfl rfl ?_
  refine TO.done ?_
  refine X.seq_normal ?_
  refine T.ret ?_
  obtain rfl := ret1 H
  exact X.ret1 rfl rfl rfl rfl (Res.tmp rfl) Pick.nil ⟨rfl, rfl⟩
end Go.Proofs.Ytjeenmabclghoaa.Ax
