/- What a call does is what its model says: csr.Tail, sort.Search, sort.SearchInts, sort.SearchInts$1. (Printed by sx.py.) -/
import Derived.Test.YtcdbemdogkmahaaAcqMLCsrPairs
import Derived.Test.YtcdbemdogkmahaaAcqRs5
import Derived.Test.YtcdbemdogkmahaaAcqWS2a
namespace Go.Proofs.Ytcdbemdogkmahaa.Ax
open Go Go.Acq Go.RowKit Go.Proofs
set_option linter.unusedVariables false
set_option linter.unusedSimpArgs false
set_option maxHeartbeats 8000000
set_option maxRecDepth 20000
theorem TWLCsrPairs.a33 : aggT Try.prog 33 9 = true := by kernel_rfl
theorem TWLCsrPairs.c22 : callable Try.prog 22 = true := by kernel_rfl
theorem TWLCsrPairs.c59 : callable Try.prog 59 = true := by kernel_rfl
theorem TWLCsrPairs.c78 : callable Try.prog 78 = true := by kernel_rfl
theorem TWLCsrPairs.c79 : callable Try.prog 79 = true := by kernel_rfl
theorem TWLCsrPairs.f33_3 : fieldT Try.prog 33 3 = some 3 := by kernel_rfl
theorem TWLCsrPairs.i115 : intT Try.prog 115 = some .u64 := by kernel_rfl
theorem TWLCsrPairs.i3 : intT Try.prog 3 = some .i64 := by kernel_rfl
theorem TWLCsrPairs.l30 : sliceT Try.prog 30 = some 3 := by kernel_rfl
theorem TWLCsrPairs.n3 : sizeT Try.prog 3 = some 1 := by kernel_rfl
theorem TWLCsrPairs.o115 : (Try.prog.underlying 115).isSome = true := by kernel_rfl
theorem TWLCsrPairs.o3 : (Try.prog.underlying 3).isSome = true := by kernel_rfl
theorem TWLCsrPairs.s3 : scalT Try.prog 3 = true := by kernel_rfl
theorem TWLCsrPairs.s30 : scalT Try.prog 30 = true := by kernel_rfl

/-- sort.SearchInts$1 -/
theorem w_sort_SearchInts_1 {i0 : Int} {c1 : List Int} {c2 : Int} {c1_k : Nat} {c1_b : Option Addr} {c1_n : Nat} {c1_c : Nat} {c2_k : Nat} (w : World) (h_c1 : RS w [] (intC .i64) 1 c1_b c1_n c1_c c1) (h_c1_k : HB w [] c1_k [.slice c1_b c1_n c1_c]) (h_c2_k : HB w [] c2_k [.int .i64 c2]) {r0 : Bool} (H : m_sort_SearchInts_1 i0 c1 c2 = some r0) : Fnc Try.prog 79 #[.int .i64 i0, .pointer (some ⟨c1_k, 0, none⟩), .pointer (some ⟨c2_k, 0, none⟩)] w [] (fun v N => v = .bool r0 ∧ N = []) := by
  unfold m_sort_SearchInts_1 at H
  refine Fnc.enter (vs := [.int .i64 i0, .pointer (some ⟨c1_k, 0, none⟩), .pointer (some ⟨c2_k, 0, none⟩)]) Try.func79 rfl rfl (Inv.refl w) ?_
  refine T.seq ?_
  refine T.regionL (ll := [0]) rfl ?_
  refine TO.assign rfl rfl rfl rfl ?_
  refine TO.done ?_
  refine X.seq_normal ?_
  refine T.seq ?_
  obtain ⟨g1, H⟩ := gd_some H
  apply T.drawQT [(5, _), (6, _), (7, _), (8, _), (9, _)]
  · exact mixed
  · kernel_rfl
  · kernel_rfl
  · exact rfl
  · exact rfl
  · refine ⟨?_, ?_, ?_, ?_, ?_, trivial⟩
    · intro Es
      refine TO.ldHB h_c1_k rfl rfl rfl rfl rfl TWLCsrPairs.s30 ?_
      exact TO.done (X.ob rfl (Pick.refl _))
    · intro Es
      refine TO.move rfl rfl rfl rfl ?_
      exact TO.done (X.ob rfl (Pick.refl _))
    · intro Es
      refine TO.ixR h_c1 g1 rfl rfl rfl rfl rfl TWLCsrPairs.l30 TWLCsrPairs.n3 ?_
      exact TO.done (X.ob rfl (Pick.refl _))
    · intro Es
      refine TO.ldIR h_c1 g1 rfl rfl rfl rfl TWLCsrPairs.s3 ?_
      exact TO.done (X.ob rfl (Pick.refl _))
    · intro Es
      refine TO.ldHB h_c2_k rfl rfl rfl rfl rfl TWLCsrPairs.s3 ?_
      exact TO.done (X.ob rfl (Pick.refl _))
  refine TO.bin rfl rfl rfl rfl rfl rfl ?_
  refine TO.assign rfl rfl rfl rfl ?_
  refine TO.done ?_
  refine X.seq_normal ?_
  refine T.trim (AllF.cons (t := 4) rfl AllF.nil) ?_
  refine T.ret ?_
  obtain rfl := ret1 H
  exact X.ret1 rfl rfl rfl rfl (Res.tmp rfl) Pick.nil ⟨rfl, rfl⟩
/-- sort.Search -/
theorem w_sort_Search_SearchInts_1 {n0 : Int} {f1_0 : List Int} {f1_1 : Int} {f1_0_k : Nat} {f1_0_b : Option Addr} {f1_0_n : Nat} {f1_0_c : Nat} {f1_1_k : Nat} (w : World) (h_f1_0 : RS w [] (intC .i64) 1 f1_0_b f1_0_n f1_0_c f1_0) (h_f1_0_k : HB w [] f1_0_k [.slice f1_0_b f1_0_n f1_0_c]) (h_f1_1_k : HB w [] f1_1_k [.int .i64 f1_1]) {r0 : Int} (H : m_sort_Search_SearchInts_1 n0 f1_0 f1_1 = some r0) : Fnc Try.prog 78 #[.int .i64 n0, .func (.func 79) #[] #[.pointer (some ⟨f1_0_k, 0, none⟩), .pointer (some ⟨f1_1_k, 0, none⟩)]] w [] (fun v N => v = .int .i64 r0 ∧ N = []) := by
  unfold m_sort_Search_SearchInts_1 at H
  refine Fnc.enter (vs := [.int .i64 n0, .func (.func 79) #[] #[.pointer (some ⟨f1_0_k, 0, none⟩), .pointer (some ⟨f1_1_k, 0, none⟩)]]) Try.func78 rfl rfl (Inv.refl w) ?_
  refine T.seq ?_
  refine T.regionL (ll := [0]) rfl ?_
  refine TO.assign rfl rfl rfl rfl ?_
  refine TO.done ?_
  refine X.seq_normal ?_
  refine T.seq ?_
  refine T.regionL (ll := [0, 1, 2]) rfl ?_
  refine TO.move rfl rfl rfl rfl ?_
  refine TO.assign rfl rfl rfl rfl ?_
  refine TO.assign rfl rfl rfl rfl ?_
  refine TO.done ?_
  refine X.seq_normal ?_
  refine T.seq ?_
  refine T.meetSE1 (fun (i11 : Int) => m_sort_Search_SearchInts_1_j2 i11 = some r0) (fun (i11 : Int) => [(5, .int .i64 i11)]) (fun (i11 : Int) => []) ?_ ?_
  ·
    refine T.block ?_
    obtain ⟨o_1, e_1, K_1⟩ := bd_some H
    refine T.loopE3 (fun (m_1 : Nat) (i1 : Int) (j2 : Int) => loopM (fun s => m_sort_Search_SearchInts_1_s1 f1_0 f1_1 s.1 s.2) m_1 (i1, j2) = some o_1) (fun (m_1 : Nat) (i1 : Int) (j2 : Int) => [(1, .func (.func 79) #[] #[.pointer (some ⟨f1_0_k, 0, none⟩), .pointer (some ⟨f1_1_k, 0, none⟩)]), (5, .int .i64 i1), (6, .int .i64 j2)]) (fun (m_1 : Nat) (i1 : Int) (j2 : Int) => []) (fun (m_1 : Nat) (i1 : Int) (j2 : Int) => m_1) FUEL 0 n0 e_1 (AllF.cons rfl (AllF.cons rfl (AllF.cons rfl AllF.nil))) Pick.nil ?_
    rintro m_1 i1 j2 H
    obtain ⟨n_1, r_1, rfl, H, C_1⟩ := loopM_some H
    have H : m_sort_Search_SearchInts_1_s1 f1_0 f1_1 i1 j2 = some r_1 := H
    unfold m_sort_Search_SearchInts_1_s1 at H
    refine T.seq ?_
    refine T.seq ?_
    refine T.regionL (ll := [0, 1, 2]) rfl ?_
    refine TO.move rfl rfl rfl rfl ?_
    refine TO.move rfl rfl rfl rfl ?_
    refine TO.bin rfl rfl rfl rfl rfl rfl ?_
    refine TO.done ?_
    refine X.seq_normal ?_
    rcases ite_some H with ⟨g3, H⟩ | ⟨g3, H⟩
    ·
      refine T.condPT rfl g3 ?_
      refine T.skip ?_
      refine X.seq_normal ?_
      refine T.block ?_
      refine T.seq ?_
      obtain ⟨g4, H⟩ := gd_some H
      obtain ⟨g5, H⟩ := gd_some H
      obtain ⟨g6, H⟩ := gd_some H
      refine T.regionL (ll := [0, 1, 2, 3, 4, 5, 6]) rfl ?_
      refine TO.move rfl rfl rfl rfl ?_
      refine TO.move rfl rfl rfl rfl ?_
      refine TO.addG g4 rfl rfl rfl rfl rfl ?_
      refine TO.convIn rfl rfl rfl rfl TWLCsrPairs.o3 TWLCsrPairs.i115 (wrap_u64_of g5) ?_
      refine TO.shrL (m := 1) rfl rfl rfl rfl rfl rfl rfl ?_
      refine TO.convIn rfl rfl rfl rfl TWLCsrPairs.o115 TWLCsrPairs.i3 (wrap_i64_of g6.1 g6.2) ?_
      refine TO.assign rfl rfl rfl rfl ?_
      refine TO.done ?_
      refine X.seq_normal ?_
      refine T.trim (AllF.cons (t := 1) rfl (AllF.cons (t := 5) rfl (AllF.cons (t := 6) rfl (AllF.cons (t := 7) rfl AllF.nil)))) ?_
      refine T.seq ?_
      obtain ⟨r7, e8, H⟩ := bd_some H
      refine T.regionL (ll := [0, 1, 2, 3]) rfl ?_
      refine TO.move rfl rfl rfl rfl ?_
      refine TO.move rfl rfl rfl rfl ?_
      refine TO.callVX TWLCsrPairs.c79 rfl rfl rfl rfl rfl (fun wc hwc => w_sort_SearchInts_1 (i0 := (Int.fdiv (i1 + j2) (2 ^ 1))) (c1 := f1_0) (c2 := f1_1) wc (h_f1_0.mono hwc) (h_f1_0_k.mono hwc) (h_f1_1_k.mono hwc) e8) ?_
      rintro _ _ ⟨rfl, rfl⟩
      refine TO.not rfl rfl rfl rfl ?_
      refine TO.done ?_
      refine X.seq_normal ?_
      rcases ite_some H with ⟨g9, H⟩ | ⟨g9, H⟩
      ·
        refine T.condT rfl g9 ?_
        obtain ⟨g10, H⟩ := gd_some H
        refine T.regionL (ll := [0, 1, 2]) rfl ?_
        refine TO.move rfl rfl rfl rfl ?_
        refine TO.addG g10 rfl rfl rfl rfl rfl ?_
        refine TO.assign rfl rfl rfl rfl ?_
        refine TO.done ?_
        refine X.block_normal ?_
        have H := loop_next H C_1
        exact X.againE3 n_1 ((Int.fdiv (i1 + j2) (2 ^ 1)) + 1) j2 H (Nat.lt_succ_self _) (AllF.cons rfl (AllF.cons rfl (AllF.cons rfl AllF.nil))) Pick.nil
      ·
        refine T.condF rfl (Bool.eq_false_iff.2 g9) ?_
        refine T.regionL (ll := [0, 1]) rfl ?_
        refine TO.move rfl rfl rfl rfl ?_
        refine TO.assign rfl rfl rfl rfl ?_
        refine TO.done ?_
        refine X.block_normal ?_
        have H := loop_next H C_1
        exact X.againE3 n_1 i1 (Int.fdiv (i1 + j2) (2 ^ 1)) H (Nat.lt_succ_self _) (AllF.cons rfl (AllF.cons rfl (AllF.cons rfl AllF.nil))) Pick.nil
    ·
      refine T.condPF rfl g3 ?_
      refine T.exit ?_
      refine X.then_exit ?_
      have H := loop_exitE H C_1 ▸ K_1
      refine X.then_exit ?_
      refine X.block_here ?_
      exact X.metE1 i1 H (AllF.cons rfl AllF.nil) Pick.nil
  · rintro i11 H
    unfold m_sort_Search_SearchInts_1_j2 at H
    refine T.seq ?_
    refine T.regionL (ll := [0, 1]) rfl ?_
    refine TO.move rfl rfl rfl rfl ?_
    refine TO.assign rfl rfl rfl rfl ?_
    refine TO.done ?_
    refine X.seq_normal ?_
    refine T.ret ?_
    obtain rfl := ret1 H
    exact X.ret1 rfl rfl rfl rfl (Res.tmp rfl) Pick.nil ⟨rfl, rfl⟩
/-- sort.SearchInts -/
theorem w_sort_SearchInts {a0 : List Int} {x1 : Int} {a0_b : Option Addr} {a0_n : Nat} {a0_c : Nat} (w : World) (h_a0 : RS w [] (intC .i64) 1 a0_b a0_n a0_c a0) {r0 : Int} (H : m_sort_SearchInts a0 x1 = some r0) : Fnc Try.prog 59 #[.slice a0_b a0_n a0_c, .int .i64 x1] w [] (fun v N => v = .int .i64 r0 ∧ N = []) := by
  unfold m_sort_SearchInts at H
  refine Fnc.enter (vs := [.slice a0_b a0_n a0_c, .int .i64 x1]) Try.func59 rfl rfl (Inv.refl w) ?_
  refine T.seq ?_
  refine T.regionL (ll := [0, 1, 2]) rfl ?_
  refine TO.box rfl rfl rfl rfl ?_; intro b1
  refine TO.box rfl rfl rfl rfl ?_; intro b3
  refine TO.assign rfl rfl rfl rfl ?_
  refine TO.done ?_
  refine X.seq_normal ?_
  refine T.seq ?_
  obtain ⟨r5, e6, H⟩ := bd_some H
  refine T.regionL (ll := [0, 1, 2, 3, 4]) rfl ?_
  refine TO.load1 rfl rfl rfl rfl TWLCsrPairs.s30 (List.Mem.tail _ (List.Mem.head _)) rfl ?_
  refine TO.lenX (xs := a0) h_a0.len rfl rfl rfl rfl rfl TWLCsrPairs.l30 ?_
  refine TO.makeFunc rfl rfl rfl rfl rfl ?_
  refine TO.callX TWLCsrPairs.c78 rfl rfl rfl rfl (fun wc hwc => w_sort_Search_SearchInts_1 (n0 := (a0.length : Int)) (f1_0 := a0) (f1_1 := x1) wc (h_a0.mono hwc) (hwc.hb (cs := [.slice a0_b a0_n a0_c]) (List.Mem.tail _ (List.Mem.head _))) (hwc.hb (cs := [.int .i64 x1]) (List.Mem.head _)) e6) ?_
  rintro _ _ ⟨rfl, rfl⟩
  refine TO.assign rfl rfl rfl rfl ?_
  refine TO.done ?_
  refine X.seq_normal ?_
  refine T.trim (AllF.cons (t := 4) rfl AllF.nil) ?_
  refine T.ret ?_
  obtain rfl := ret1 H
  exact X.ret1 rfl rfl rfl rfl (Res.tmp rfl) Pick.nil ⟨rfl, rfl⟩
/-- acequia/csr.Tail -/
theorem w_csr_Tail {c0 : Csr} {a1 : Int} {c0_First_b : Option Addr} {c0_First_n : Nat} {c0_First_c : Nat} {c0_Head_b : Option Addr} {c0_Head_n : Nat} {c0_Head_c : Nat} {c0_Rev_b : Option Addr} {c0_Rev_n : Nat} {c0_Rev_c : Nat} {c0_Cap_b : Option Addr} {c0_Cap_n : Nat} {c0_Cap_c : Nat} {c0_Arc_b : Option Addr} {c0_Arc_n : Nat} {c0_Arc_c : Nat} {c0_Back_b : Option Addr} {c0_Back_n : Nat} {c0_Back_c : Nat} (w : World) (h_c0_First : RS w [] (intC .i64) 1 c0_First_b c0_First_n c0_First_c c0.First) (h_c0_Head : RS w [] (intC .i64) 1 c0_Head_b c0_Head_n c0_Head_c c0.Head) (h_c0_Rev : RS w [] (intC .i64) 1 c0_Rev_b c0_Rev_n c0_Rev_c c0.Rev) (h_c0_Cap : RS w [] (intC .i64) 1 c0_Cap_b c0_Cap_n c0_Cap_c c0.Cap) (h_c0_Arc : RS w [] (intC .i64) 1 c0_Arc_b c0_Arc_n c0_Arc_c c0.Arc) (h_c0_Back : RS w [] boolC 1 c0_Back_b c0_Back_n c0_Back_c c0.Back) {r0 : Int} {r1 : Bool} (H : m_csr_Tail c0 a1 = some (r0, r1)) : Fnc Try.prog 26 #[.agg #[.int .i64 c0.N, .int .i64 c0.S, .int .i64 c0.T, .slice c0_First_b c0_First_n c0_First_c, .slice c0_Head_b c0_Head_n c0_Head_c, .slice c0_Rev_b c0_Rev_n c0_Rev_c, .slice c0_Cap_b c0_Cap_n c0_Cap_c, .slice c0_Arc_b c0_Arc_n c0_Arc_c, .slice c0_Back_b c0_Back_n c0_Back_c], .int .i64 a1] w [] (fun v N => v = .tuple #[.int .i64 r0, .bool r1] ∧ N = []) := by
  unfold m_csr_Tail at H
  refine Fnc.enter (vs := [.agg #[.int .i64 c0.N, .int .i64 c0.S, .int .i64 c0.T, .slice c0_First_b c0_First_n c0_First_c, .slice c0_Head_b c0_Head_n c0_Head_c, .slice c0_Rev_b c0_Rev_n c0_Rev_c, .slice c0_Cap_b c0_Cap_n c0_Cap_c, .slice c0_Arc_b c0_Arc_n c0_Arc_c, .slice c0_Back_b c0_Back_n c0_Back_c], .int .i64 a1]) Try.func26 rfl rfl (Inv.refl w) ?_
  refine T.seq ?_
  refine T.regionL (ll := [0, 1, 2]) rfl ?_
  refine TO.boxA rfl rfl rfl rfl ?_; intro b1
  refine TO.assign rfl rfl rfl rfl ?_
  refine TO.assign rfl rfl rfl rfl ?_
  refine TO.done ?_
  refine X.seq_normal ?_
  refine T.seq ?_
  refine T.seq ?_
  refine T.meetSE1 (fun (x6 : Bool) => m_csr_Tail_j1 c0 a1 x6 = some (r0, r1)) (fun (x6 : Bool) => [(1, .int .i64 a1), (2, .pointer (some ⟨b1, 0, none⟩)), (13, .bool x6)]) (fun (x6 : Bool) => [(some b1, .cells #[.int .i64 c0.N, .int .i64 c0.S, .int .i64 c0.T, .slice c0_First_b c0_First_n c0_First_c, .slice c0_Head_b c0_Head_n c0_Head_c, .slice c0_Rev_b c0_Rev_n c0_Rev_c, .slice c0_Cap_b c0_Cap_n c0_Cap_c, .slice c0_Arc_b c0_Arc_n c0_Arc_c, .slice c0_Back_b c0_Back_n c0_Back_c] 33 (0, 0))]) ?_ ?_
  ·
    rcases ite_some H with ⟨g3, H⟩ | ⟨g3, H⟩
    ·
      refine T.regionL (ll := [0, 1, 2, 3, 4, 5, 6, 7]) rfl ?_
      refine TO.move rfl rfl rfl rfl ?_
      refine TO.bin rfl rfl rfl rfl rfl rfl ?_
      refine TO.move rfl rfl rfl rfl ?_
      refine TO.decB (t := 8) (b' := true) rfl (decide_eq_true g3) ?_
      refine TO.shut rfl rfl rfl rfl ?_
      refine TO.shut rfl rfl rfl rfl ?_
      refine TO.shut rfl rfl rfl rfl ?_
      refine TO.shut rfl rfl rfl rfl ?_
      refine TO.pickT rfl rfl rfl rfl rfl ?_
      refine TO.done ?_
      exact X.metE1 true H (AllF.cons rfl (AllF.cons rfl (AllF.cons rfl AllF.nil))) (Pick.cons (Take.head _ _) Pick.nil)
    ·
      obtain ⟨r4, e5, H⟩ := bd_some H
      refine T.regionL (ll := [0, 1, 2, 3, 4, 5, 6, 7]) rfl ?_
      refine TO.move rfl rfl rfl rfl ?_
      refine TO.bin rfl rfl rfl rfl rfl rfl ?_
      refine TO.move rfl rfl rfl rfl ?_
      refine TO.decB (t := 8) (b' := false) rfl (decide_eq_false g3) ?_
      refine TO.move rfl rfl rfl rfl ?_
      refine TO.loadA rfl rfl rfl rfl TWLCsrPairs.a33 (List.Mem.head _) rfl ?_
      refine TO.callX TWLCsrPairs.c22 rfl rfl rfl rfl (fun wc hwc => w_csr_Len (c0 := c0) wc (h_c0_First.mono hwc) (h_c0_Head.mono hwc) (h_c0_Rev.mono hwc) (h_c0_Cap.mono hwc) (h_c0_Arc.mono hwc) (h_c0_Back.mono hwc) e5) ?_
      rintro _ _ ⟨rfl, rfl⟩
      refine TO.bin rfl rfl rfl rfl rfl rfl ?_
      refine TO.pickF rfl rfl rfl rfl rfl ?_
      refine TO.done ?_
      exact X.metE1 (decide (r4 ≤ a1)) H (AllF.cons rfl (AllF.cons rfl (AllF.cons rfl AllF.nil))) (Pick.cons (Take.head _ _) Pick.nil)
  · rintro x6 H
    unfold m_csr_Tail_j1 at H
    rcases ite_some H with ⟨g7, H⟩ | ⟨g7, H⟩
    ·
      refine T.condT rfl g7 ?_
      refine T.seq ?_
      refine T.regionL (ll := [0, 1]) rfl ?_
      refine TO.assign rfl rfl rfl rfl ?_
      refine TO.assign rfl rfl rfl rfl ?_
      refine TO.done ?_
      refine X.seq_normal ?_
      refine T.ret ?_
      refine X.then_ret ?_
      obtain ⟨rfl, rfl⟩ := ret2 H
      exact X.ret2 rfl rfl rfl rfl (Res.tmp rfl) (Res.tmp rfl) Pick.nil ⟨rfl, rfl⟩
    ·
      refine T.condF rfl (Bool.eq_false_iff.2 g7) ?_
      refine T.skip ?_
      refine X.seq_normal ?_
      refine T.seq ?_
      obtain ⟨g8, H⟩ := gd_some H
      obtain ⟨r9, e10, H⟩ := bd_some H
      obtain ⟨g11, H⟩ := gd_some H
      refine T.regionL (ll := [0, 1, 2, 3, 4, 5, 6, 7]) rfl ?_
      refine TO.fieldAddr0 rfl rfl rfl rfl TWLCsrPairs.f33_3 ?_
      refine TO.load1 rfl rfl rfl rfl TWLCsrPairs.s30 (List.Mem.head _) rfl ?_
      refine TO.move rfl rfl rfl rfl ?_
      refine TO.addG g8 rfl rfl rfl rfl rfl ?_
      refine TO.callX TWLCsrPairs.c59 rfl rfl rfl rfl (fun wc hwc => w_sort_SearchInts (a0 := c0.First) (x1 := (a1 + 1)) wc (h_c0_First.mono hwc) e10) ?_
      rintro _ _ ⟨rfl, rfl⟩
      refine TO.subG g11 rfl rfl rfl rfl rfl ?_
      refine TO.assign rfl rfl rfl rfl ?_
      refine TO.assign rfl rfl rfl rfl ?_
      refine TO.done ?_
      refine X.seq_normal ?_
      refine T.trim (AllF.cons (t := 4) rfl (AllF.cons (t := 5) rfl AllF.nil)) ?_
      refine T.ret ?_
      obtain ⟨rfl, rfl⟩ := ret2 H
      exact X.ret2 rfl rfl rfl rfl (Res.tmp rfl) (Res.tmp rfl) Pick.nil ⟨rfl, rfl⟩
end Go.Proofs.Ytcdbemdogkmahaa.Ax
