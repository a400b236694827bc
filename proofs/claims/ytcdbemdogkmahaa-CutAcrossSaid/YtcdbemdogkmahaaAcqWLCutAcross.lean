/- What a call does is what its model says: acequialaw04.CutAcross. (Printed by sx.py.) -/
import Derived.Test.YtcdbemdogkmahaaAcqMLCutAcross
import Derived.Test.YtcdbemdogkmahaaAcqSqR
import Derived.Test.YtcdbemdogkmahaaAcqWS4
namespace Go.Proofs.Ytcdbemdogkmahaa.Ax
open Go Go.Acq Go.RowKit Go.Proofs
set_option linter.unusedVariables false
set_option linter.unusedSimpArgs false
set_option maxHeartbeats 8000000
set_option maxRecDepth 20000
theorem TWLCutAcross.a24 : aggT Try.prog 24 4 = true := by kernel_rfl
theorem TWLCutAcross.c17 : callable Try.prog 17 = true := by kernel_rfl
theorem TWLCutAcross.c18 : callable Try.prog 18 = true := by kernel_rfl
theorem TWLCutAcross.c27 : callable Try.prog 27 = true := by kernel_rfl
theorem TWLCutAcross.c29 : callable Try.prog 29 = true := by kernel_rfl
theorem TWLCutAcross.c41 : callable Try.prog 41 = true := by kernel_rfl
theorem TWLCutAcross.c42 : callable Try.prog 42 = true := by kernel_rfl
theorem TWLCutAcross.c43 : callable Try.prog 43 = true := by kernel_rfl
theorem TWLCutAcross.c44 : callable Try.prog 44 = true := by kernel_rfl
theorem TWLCutAcross.c45 : callable Try.prog 45 = true := by kernel_rfl
theorem TWLCutAcross.c46 : callable Try.prog 46 = true := by kernel_rfl
theorem TWLCutAcross.f24_0 : fieldT Try.prog 24 0 = some 0 := by kernel_rfl
theorem TWLCutAcross.l25 : sliceT Try.prog 25 = some 2 := by kernel_rfl
theorem TWLCutAcross.l31 : sliceT Try.prog 31 = some 4 := by kernel_rfl
theorem TWLCutAcross.n2 : sizeT Try.prog 2 = some 1 := by kernel_rfl
theorem TWLCutAcross.n24 : sizeT Try.prog 24 = some 4 := by kernel_rfl
theorem TWLCutAcross.n4 : sizeT Try.prog 4 = some 1 := by kernel_rfl
theorem TWLCutAcross.s2 : scalT Try.prog 2 = true := by kernel_rfl
theorem TWLCutAcross.s3 : scalT Try.prog 3 = true := by kernel_rfl
theorem TWLCutAcross.s4 : scalT Try.prog 4 = true := by kernel_rfl
theorem TWLCutAcross.u4 : Try.prog.underlying 4 = some .bool := by kernel_rfl

/-- acequia/acequialaw04.CutAcross -/
theorem w_acequialaw04_CutAcross {n0 : Net} {l1 : List Int} {s2 : List Bool} {n0_Arcs_b : Option Addr} {n0_Arcs_n : Nat} {n0_Arcs_c : Nat} {l1_b : Option Addr} {l1_n : Nat} {l1_c : Nat} {s2_b : Option Addr} {s2_n : Nat} {s2_c : Nat} (w : World) (h_n0_Arcs : RS w [] arcC 3 n0_Arcs_b n0_Arcs_n n0_Arcs_c n0.Arcs) (h_l1 : RS w [] (intC .i64) 1 l1_b l1_n l1_c l1) (h_s2 : RS w [] boolC 1 s2_b s2_n s2_c s2) {r0 : Bool} (H : m_acequialaw04_CutAcross n0 l1 s2 = some r0) : Fnc Try.prog 15 #[.agg #[.int .i64 n0.N, .int .i64 n0.S, .int .i64 n0.T, .slice n0_Arcs_b n0_Arcs_n n0_Arcs_c], .slice l1_b l1_n l1_c, .slice s2_b s2_n s2_c] w [] (fun v N => v = .bool r0 ∧ N = []) := by
  unfold m_acequialaw04_CutAcross at H
  refine Fnc.enter (vs := [.agg #[.int .i64 n0.N, .int .i64 n0.S, .int .i64 n0.T, .slice n0_Arcs_b n0_Arcs_n n0_Arcs_c], .slice l1_b l1_n l1_c, .slice s2_b s2_n s2_c]) Try.func15 rfl rfl (Inv.refl w) ?_
  refine T.seq ?_
  refine T.regionL (ll := [0, 1]) rfl ?_
  refine TO.boxA rfl rfl rfl rfl ?_; intro b1
  refine TO.assign rfl rfl rfl rfl ?_
  refine TO.done ?_
  refine X.seq_normal ?_
  refine T.seq ?_
  obtain ⟨r3, e4, H⟩ := bd_some H
  refine T.regionL (ll := [0, 1, 2]) rfl ?_
  refine TO.loadA rfl rfl rfl rfl TWLCutAcross.a24 (List.Mem.head _) rfl ?_
  refine TO.callX TWLCutAcross.c17 rfl rfl rfl rfl (fun wc hwc => w_acequialow_Some (n0 := n0) (verts1 := 30) (arcs2 := 60) wc (h_n0_Arcs.mono hwc) e4) ?_
  rintro _ _ ⟨ob5, n6, c7, j8, rfl, rfl, hn9, hc10, hj11, hz12⟩
  refine TO.storeA rfl rfl rfl rfl (Take.tail (Take.head _ _)) TWLCutAcross.n24 rfl rfl rfl ?_
  refine TO.done ?_
  refine X.seq_normal ?_
  refine T.seq ?_
  obtain ⟨r14, e15, H⟩ := bd_some H
  obtain ⟨r25, e26, H⟩ := bd_some H
  apply T.drawL [⟨[], false, [], relV _⟩, ⟨[], false, [], relV _⟩, ⟨[0, 1], false, [], fun _ v e => ∃ (ob16 : Option Nat) (n17 : Nat) (c18 : Nat) (j19 : List Value), v = .slice (sb ob16) n17 c18 ∧ e = [(ob16, .cells (arr (intC .i64) r14 j19).toArray 2 (0, 0))] ∧ r14.length = n17 ∧ n17 ≤ c18 ∧ j19.length = (c18 - n17) * 1 ∧ (ob16 = none → c18 = 0)⟩, ⟨[], false, [], relV _⟩, ⟨[], false, [], relV _⟩] [22, 23, 24, 25, 26] 5 (HRk [[]]) [[]] [] [(some b1, .cells #[.int .i64 r3.N, .int .i64 r3.S, .int .i64 r3.T, .slice (sb ob5) n6 c7] 24 (0, 0)), (ob5, .cells (arr arcC r3.Arcs j8).toArray 28 (0, 0))]
  · exact mixed
  · exact rfl
  · kernel_rfl
  · kernel_rfl
  · kernel_rfl
  · exact rfl
  · exact rfl
  · exact rfl
  · exact rfl
  · exact (by repeat (first | exact Pick.refl _ | exact Pick.nil | apply Pick.none | refine Pick.cons (by repeat (first | exact Take.head _ _ | apply Take.tail)) ?_))
  · refine ⟨?_, ?_, ?_, ?_, ?_, trivial⟩
    · rintro vs es Es Hx -
      refine TO.reenv (D := []) rfl ?_
      refine TO.loadA rfl rfl rfl rfl TWLCutAcross.a24 (List.Mem.head _) rfl ?_
      refine TO.done ?_; exact X.obQ rfl ⟨rfl, rfl⟩ (Pick.refl _) rfl
    · rintro vs es Es Hx -
      refine TO.reenv (D := []) rfl ?_
      refine TO.move rfl rfl rfl rfl ?_
      refine TO.done ?_; exact X.obQ rfl ⟨rfl, rfl⟩ (Pick.refl _) rfl
    · rintro vs es Es Hx ⟨⟨h_0, e_0⟩, ⟨h_1, e_1⟩, -⟩
      refine TO.reenv (D := [(22, vs 0), (23, vs 1)]) rfl ?_; rw [h_0, h_1]
      refine TO.callX TWLCutAcross.c18 rfl rfl rfl rfl (fun wc hwc => w_acequialow_Within (n0 := r3) (l1 := l1) wc (hwc.rs (f := arcC) (s := 3) (xs := r3.Arcs) (j := j8) (fun _ => rfl) (List.Mem.tail _ (List.Mem.head _)) hn9 hc10 hz12) (h_l1.mono hwc) e15) ?_
      rintro _ _ ⟨ob16, n17, c18, j19, rfl, rfl, hn20, hc21, hj22, hz23⟩
      refine TO.done ?_; exact X.obQ rfl ⟨ob16, n17, c18, j19, rfl, rfl, hn20, hc21, hj22, hz23⟩ (by repeat (first | exact Pick.refl _ | exact Pick.nil | apply Pick.none | refine Pick.cons (by repeat (first | exact Take.head _ _ | apply Take.tail)) ?_)) (by show [(22, vs 0), (23, vs 1)] = _; rw [h_0, h_1])
    · rintro vs es Es Hx -
      refine TO.reenv (D := []) rfl ?_
      refine TO.loadA rfl rfl rfl rfl TWLCutAcross.a24 (List.Mem.head _) rfl ?_
      refine TO.done ?_; exact X.obQ rfl ⟨rfl, rfl⟩ (Pick.refl _) rfl
    · rintro vs es Es Hx -
      refine TO.reenv (D := []) rfl ?_
      refine TO.move rfl rfl rfl rfl ?_
      refine TO.done ?_; exact X.obQ rfl ⟨rfl, rfl⟩ (Pick.refl _) rfl
  · rintro vs es hb ⟨⟨h_0, e_0⟩, ⟨h_1, e_1⟩, ⟨ob16, n17, c18, j19, h_2, e_2, hn20, hc21, hj22, hz23⟩, ⟨h_3, e_3⟩, ⟨h_4, e_4⟩, -⟩ hHR
    obtain rfl : hb = [] := hHR
    refine TO.reenv (D := [(22, vs 0), (23, vs 1), (24, vs 2), (25, vs 3), (26, vs 4)]) rfl ?_
    refine TO.reheap (H := [(some b1, .cells #[.int .i64 r3.N, .int .i64 r3.S, .int .i64 r3.T, .slice (sb ob5) n6 c7] 24 (0, 0)), (ob5, .cells (arr arcC r3.Arcs j8).toArray 28 (0, 0)), (ob16, .cells (arr (intC .i64) r14 j19).toArray 2 (0, 0))]) (by show _ ++ (_ ++ (es 0 ++ (es 1 ++ (es 2 ++ (es 3 ++ (es 4 ++ ([]))))))) = _; rw [e_0, e_1, e_2, e_3, e_4]; rfl) ?_
    rw [h_0, h_1, h_2, h_3, h_4]
    clear h_4 h_3 h_2 h_1 h_0 e_0 e_1 e_2 e_3 e_4
    refine TO.callX TWLCutAcross.c43 rfl rfl rfl rfl (fun wc hwc => w_acequialaw04_side (n0 := r3) (s1 := s2) wc (hwc.rs (f := arcC) (s := 3) (xs := r3.Arcs) (j := j8) (fun _ => rfl) (List.Mem.tail _ (List.Mem.head _)) hn9 hc10 hz12) (h_s2.mono hwc) e26) ?_
    rintro _ _ ⟨ob27, n28, c29, j30, rfl, rfl, hn31, hc32, hj33, hz34⟩
    refine TO.assign rfl rfl rfl rfl ?_
    refine TO.assign rfl rfl rfl rfl ?_
    refine TO.done ?_
    refine X.seq_normal ?_
    refine T.trim (AllF.cons (t := 3) rfl (AllF.cons (t := 7) rfl (AllF.cons (t := 8) rfl AllF.nil))) ?_
    refine T.seq ?_
    obtain ⟨⟨r36, r37⟩, e38, H⟩ := bd_some H
    refine T.regionL (ll := [0, 1, 2, 3, 4, 5, 6, 7, 8]) rfl ?_
    refine TO.loadA rfl rfl rfl rfl TWLCutAcross.a24 (List.Mem.tail _ (List.Mem.head _)) rfl ?_
    refine TO.move rfl rfl rfl rfl ?_
    refine TO.move rfl rfl rfl rfl ?_
    refine TO.callX TWLCutAcross.c45 rfl rfl rfl rfl (fun wc hwc => w_cut_Across (n0 := r3) (f1 := r14) (s2 := r25) wc (hwc.rs (f := arcC) (s := 3) (xs := r3.Arcs) (j := j8) (fun _ => rfl) (List.Mem.tail _ (List.Mem.tail _ (List.Mem.head _))) hn9 hc10 hz12) (hwc.rs (f := (intC .i64)) (s := 1) (xs := r14) (j := j19) (fun _ => rfl) (List.Mem.tail _ (List.Mem.tail _ (List.Mem.tail _ (List.Mem.head _)))) hn20 hc21 hz23) (hwc.rs (f := boolC) (s := 1) (xs := r25) (j := j30) (fun _ => rfl) (List.Mem.head _) hn31 hc32 hz34) e38) ?_
    rintro _ _ ⟨rfl, rfl⟩
    refine TO.move rfl rfl rfl rfl ?_
    refine TO.extract rfl rfl rfl rfl rfl ?_
    refine TO.extract rfl rfl rfl rfl rfl ?_
    refine TO.assign rfl rfl rfl rfl ?_
    refine TO.assign rfl rfl rfl rfl ?_
    refine TO.done ?_
    refine X.seq_normal ?_
    refine T.seq ?_
    obtain ⟨⟨r39, r40⟩, e41, H⟩ := bd_some H
    refine T.regionL (ll := [0, 1, 2, 3, 4, 5, 6, 7]) rfl ?_
    refine TO.loadA rfl rfl rfl rfl TWLCutAcross.a24 (List.Mem.tail _ (List.Mem.head _)) rfl ?_
    refine TO.move rfl rfl rfl rfl ?_
    refine TO.callX TWLCutAcross.c44 rfl rfl rfl rfl (fun wc hwc => w_cut_Cap (n0 := r3) (s1 := r25) wc (hwc.rs (f := arcC) (s := 3) (xs := r3.Arcs) (j := j8) (fun _ => rfl) (List.Mem.tail _ (List.Mem.tail _ (List.Mem.head _))) hn9 hc10 hz12) (hwc.rs (f := boolC) (s := 1) (xs := r25) (j := j30) (fun _ => rfl) (List.Mem.head _) hn31 hc32 hz34) e41) ?_
    rintro _ _ ⟨rfl, rfl⟩
    refine TO.move rfl rfl rfl rfl ?_
    refine TO.extract rfl rfl rfl rfl rfl ?_
    refine TO.extract rfl rfl rfl rfl rfl ?_
    refine TO.assign rfl rfl rfl rfl ?_
    refine TO.assign rfl rfl rfl rfl ?_
    refine TO.done ?_
    refine X.seq_normal ?_
    refine T.trim (AllF.cons (t := 3) rfl (AllF.cons (t := 7) rfl (AllF.cons (t := 8) rfl (AllF.cons (t := 9) rfl (AllF.cons (t := 10) rfl (AllF.cons (t := 11) rfl (AllF.cons (t := 12) rfl AllF.nil))))))) ?_
    refine T.seq ?_
    obtain ⟨⟨r42, r43⟩, e44, H⟩ := bd_some H
    refine T.regionL (ll := [0, 1, 2, 3, 4, 5, 6, 7]) rfl ?_
    refine TO.loadA rfl rfl rfl rfl TWLCutAcross.a24 (List.Mem.tail _ (List.Mem.head _)) rfl ?_
    refine TO.move rfl rfl rfl rfl ?_
    refine TO.callX TWLCutAcross.c27 rfl rfl rfl rfl (fun wc hwc => w_flow_Excess (n0 := r3) (f1 := r14) wc (hwc.rs (f := arcC) (s := 3) (xs := r3.Arcs) (j := j8) (fun _ => rfl) (List.Mem.tail _ (List.Mem.tail _ (List.Mem.head _))) hn9 hc10 hz12) (hwc.rs (f := (intC .i64)) (s := 1) (xs := r14) (j := j19) (fun _ => rfl) (List.Mem.tail _ (List.Mem.tail _ (List.Mem.tail _ (List.Mem.head _)))) hn20 hc21 hz23) e44) ?_
    rintro _ _ ⟨ob45, n46, c47, j48, rfl, rfl, hn49, hc50, hj51, hz52⟩
    refine TO.move rfl rfl rfl rfl ?_
    refine TO.extract rfl rfl rfl rfl rfl ?_
    refine TO.extract rfl rfl rfl rfl rfl ?_
    refine TO.assign rfl rfl rfl rfl ?_
    refine TO.assign rfl rfl rfl rfl ?_
    refine TO.done ?_
    refine X.seq_normal ?_
    refine T.seq ?_
    refine T.seq ?_
    refine T.regionL (ll := [0, 1, 2, 3, 4, 5, 6, 7, 8, 9, 10, 11, 12, 13, 14, 15, 16, 17, 18, 19, 20, 21, 22]) rfl ?_
    refine TO.move rfl rfl rfl rfl ?_
    refine TO.bin rfl rfl rfl rfl rfl rfl ?_
    refine TO.move rfl rfl rfl rfl ?_
    refine TO.join [3, 4, 5] [6, 7, 8, 9, 10, 11, 12, 13, 14, 15, 16, 17, 18, 19, 20, 21, 22] rfl 52 (fun b55 => m_acequialaw04_CutAcross_j1 r3 r14 r25 r36 r39 r42 r43 b55 = some r0) [(3, .pointer (some ⟨b1, 0, none⟩)), (7, .slice (sb ob16) n17 c18), (8, .slice (sb ob27) n28 c29), (9, .int .i64 r36), (11, .int .i64 r39), (13, .slice (sb ob45) n46 c47), (14, .int .i64 r43)] ?_ ?_
    ·
      rcases ite_some H with ⟨g54, H⟩ | ⟨g54, H⟩
      ·
        refine TO.decB (t := 49) (b' := true) rfl (decide_eq_true g54) ?_
        refine TO.shut rfl rfl rfl rfl ?_
        refine TO.shut rfl rfl rfl rfl ?_
        refine TO.pickT rfl rfl rfl rfl rfl ?_
        refine TO.done ?_
        exact X.jn (b := true) H (AllF.cons rfl (AllF.cons rfl (AllF.cons rfl (AllF.cons rfl (AllF.cons rfl (AllF.cons rfl (AllF.cons rfl (AllF.cons rfl AllF.nil))))))))
      ·
        refine TO.decB (t := 49) (b' := false) rfl (decide_eq_false g54) ?_
        refine TO.move rfl rfl rfl rfl ?_
        refine TO.bin rfl rfl rfl rfl rfl rfl ?_
        refine TO.pickF rfl rfl rfl rfl rfl ?_
        refine TO.done ?_
        exact X.jn (b := (decide (r40 ≠ 0))) H (AllF.cons rfl (AllF.cons rfl (AllF.cons rfl (AllF.cons rfl (AllF.cons rfl (AllF.cons rfl (AllF.cons rfl (AllF.cons rfl AllF.nil))))))))
    · rintro b55 H
      unfold m_acequialaw04_CutAcross_j1 at H
      refine TO.move rfl rfl rfl rfl ?_
      refine TO.join [7, 8, 9] [10, 11, 12, 13, 14, 15, 16, 17, 18, 19, 20, 21, 22] rfl 56 (fun b57 => m_acequialaw04_CutAcross_j2 r3 r14 r25 r36 r39 r42 b57 = some r0) [(3, .pointer (some ⟨b1, 0, none⟩)), (7, .slice (sb ob16) n17 c18), (8, .slice (sb ob27) n28 c29), (9, .int .i64 r36), (11, .int .i64 r39), (13, .slice (sb ob45) n46 c47)] ?_ ?_
      ·
        rcases ite_some H with ⟨g56, H⟩ | ⟨g56, H⟩
        ·
          refine TO.decB (t := 53) (b' := true) rfl g56 ?_
          refine TO.shut rfl rfl rfl rfl ?_
          refine TO.shut rfl rfl rfl rfl ?_
          refine TO.pickT rfl rfl rfl rfl rfl ?_
          refine TO.done ?_
          exact X.jn (b := true) H (AllF.cons rfl (AllF.cons rfl (AllF.cons rfl (AllF.cons rfl (AllF.cons rfl (AllF.cons rfl (AllF.cons rfl AllF.nil)))))))
        ·
          refine TO.decB (t := 53) (b' := false) rfl (Bool.eq_false_iff.2 g56) ?_
          refine TO.move rfl rfl rfl rfl ?_
          refine TO.bin rfl rfl rfl rfl rfl rfl ?_
          refine TO.pickF rfl rfl rfl rfl rfl ?_
          refine TO.done ?_
          exact X.jn (b := (decide (r43 ≠ 0))) H (AllF.cons rfl (AllF.cons rfl (AllF.cons rfl (AllF.cons rfl (AllF.cons rfl (AllF.cons rfl (AllF.cons rfl AllF.nil)))))))
      · rintro b57 H
        unfold m_acequialaw04_CutAcross_j2 at H
        refine TO.move rfl rfl rfl rfl ?_
        refine TO.join [11, 12, 13, 14, 15] [16, 17, 18, 19, 20, 21, 22] rfl 62 (fun b61 => m_acequialaw04_CutAcross_j3 r3 r14 r25 r36 r39 r42 b61 = some r0) [(3, .pointer (some ⟨b1, 0, none⟩)), (7, .slice (sb ob16) n17 c18), (8, .slice (sb ob27) n28 c29), (9, .int .i64 r36), (11, .int .i64 r39), (13, .slice (sb ob45) n46 c47)] ?_ ?_
        ·
          rcases ite_some H with ⟨g58, H⟩ | ⟨g58, H⟩
          ·
            refine TO.decB (t := 57) (b' := true) rfl g58 ?_
            refine TO.shut rfl rfl rfl rfl ?_
            refine TO.shut rfl rfl rfl rfl ?_
            refine TO.shut rfl rfl rfl rfl ?_
            refine TO.shut rfl rfl rfl rfl ?_
            refine TO.pickT rfl rfl rfl rfl rfl ?_
            refine TO.done ?_
            exact X.jn (b := true) H (AllF.cons rfl (AllF.cons rfl (AllF.cons rfl (AllF.cons rfl (AllF.cons rfl (AllF.cons rfl (AllF.cons rfl AllF.nil)))))))
          ·
            obtain ⟨r59, e60, H⟩ := bd_some H
            refine TO.decB (t := 57) (b' := false) rfl (Bool.eq_false_iff.2 g58) ?_
            refine TO.loadA rfl rfl rfl rfl TWLCutAcross.a24 (List.Mem.tail _ (List.Mem.tail _ (List.Mem.head _))) rfl ?_
            refine TO.move rfl rfl rfl rfl ?_
            refine TO.callX TWLCutAcross.c41 rfl rfl rfl rfl (fun wc hwc => w_cut_Right (n0 := r3) (s1 := r25) wc (hwc.rs (f := arcC) (s := 3) (xs := r3.Arcs) (j := j8) (fun _ => rfl) (List.Mem.tail _ (List.Mem.tail _ (List.Mem.tail _ (List.Mem.head _)))) hn9 hc10 hz12) (hwc.rs (f := boolC) (s := 1) (xs := r25) (j := j30) (fun _ => rfl) (List.Mem.tail _ (List.Mem.head _)) hn31 hc32 hz34) e60) ?_
            rintro _ _ ⟨rfl, rfl⟩
            refine TO.not rfl rfl rfl rfl ?_
            refine TO.pickF rfl rfl rfl rfl rfl ?_
            refine TO.done ?_
            exact X.jn (b := (!r59)) H (AllF.cons rfl (AllF.cons rfl (AllF.cons rfl (AllF.cons rfl (AllF.cons rfl (AllF.cons rfl (AllF.cons rfl AllF.nil)))))))
        · rintro b61 H
          unfold m_acequialaw04_CutAcross_j3 at H
          refine TO.move rfl rfl rfl rfl ?_
          refine TO.join [17, 18, 19, 20, 21, 22] [] rfl 69 (fun b63 => m_acequialaw04_CutAcross_j4 r3 r14 r25 r36 r39 r42 b63 = some r0) [(3, .pointer (some ⟨b1, 0, none⟩)), (7, .slice (sb ob16) n17 c18), (8, .slice (sb ob27) n28 c29), (9, .int .i64 r36), (11, .int .i64 r39), (13, .slice (sb ob45) n46 c47)] ?_ ?_
          ·
            rcases ite_some H with ⟨g62, H⟩ | ⟨g62, H⟩
            ·
              refine TO.decB (t := 63) (b' := true) rfl g62 ?_
              refine TO.shut rfl rfl rfl rfl ?_
              refine TO.shut rfl rfl rfl rfl ?_
              refine TO.shut rfl rfl rfl rfl ?_
              refine TO.shut rfl rfl rfl rfl ?_
              refine TO.shut rfl rfl rfl rfl ?_
              refine TO.pickT rfl rfl rfl rfl rfl ?_
              refine TO.done ?_
              exact X.jn (b := true) H (AllF.cons rfl (AllF.cons rfl (AllF.cons rfl (AllF.cons rfl (AllF.cons rfl (AllF.cons rfl (AllF.cons rfl AllF.nil)))))))
            ·
              refine TO.decB (t := 63) (b' := false) rfl (Bool.eq_false_iff.2 g62) ?_
              refine TO.move rfl rfl rfl rfl ?_
              refine TO.lenX (xs := r42) hn49 rfl rfl rfl rfl rfl TWLCutAcross.l25 ?_
              refine TO.fieldAddr0 rfl rfl rfl rfl TWLCutAcross.f24_0 ?_
              refine TO.load1 rfl rfl rfl rfl TWLCutAcross.s3 (List.Mem.tail _ (List.Mem.tail _ (List.Mem.head _))) rfl ?_
              refine TO.bin rfl rfl rfl rfl rfl rfl ?_
              refine TO.pickF rfl rfl rfl rfl rfl ?_
              refine TO.done ?_
              exact X.jn (b := (decide ((r42.length : Int) ≠ r3.N))) H (AllF.cons rfl (AllF.cons rfl (AllF.cons rfl (AllF.cons rfl (AllF.cons rfl (AllF.cons rfl (AllF.cons rfl AllF.nil)))))))
          · rintro b63 H
            unfold m_acequialaw04_CutAcross_j4 at H
            refine TO.done ?_
            refine X.seq_normal ?_
            rcases ite_some H with ⟨g64, H⟩ | ⟨g64, H⟩
            ·
              refine T.condT rfl g64 ?_
              refine T.seq ?_
              refine T.regionL (ll := [0]) rfl ?_
              refine TO.assign rfl rfl rfl rfl ?_
              refine TO.done ?_
              refine X.seq_normal ?_
              refine T.ret ?_
              refine X.then_ret ?_
              obtain rfl := ret1 H
              exact X.ret1 rfl rfl rfl rfl (Res.tmp rfl) Pick.nil ⟨rfl, rfl⟩
            ·
              refine T.condF rfl (Bool.eq_false_iff.2 g64) ?_
              refine T.skip ?_
              refine X.seq_normal ?_
              refine T.seq ?_
              refine T.regionL (ll := [0]) rfl ?_
              refine TO.assign rfl rfl rfl rfl ?_
              refine TO.done ?_
              refine X.seq_normal ?_
              refine T.seq ?_
              refine T.seq ?_
              refine T.regionL (ll := [0, 1, 2]) rfl ?_
              refine TO.move rfl rfl rfl rfl ?_
              refine TO.lenX (xs := r25) hn31 rfl rfl rfl rfl rfl TWLCutAcross.l31 ?_
              refine TO.move rfl rfl rfl rfl ?_
              refine TO.done ?_
              refine X.seq_normal ?_
              refine T.meetSE1 (fun (sum74 : Int) => m_acequialaw04_CutAcross_j6 r3 r14 r25 r36 r39 sum74 = some r0) (fun (sum74 : Int) => [(3, .pointer (some ⟨b1, 0, none⟩)), (7, .slice (sb ob16) n17 c18), (8, .slice (sb ob27) n28 c29), (9, .int .i64 r36), (11, .int .i64 r39), (15, .int .i64 sum74)]) (fun (sum74 : Int) => [(some b1, .cells #[.int .i64 r3.N, .int .i64 r3.S, .int .i64 r3.T, .slice (sb ob5) n6 c7] 24 (0, 0)), (ob5, .cells (arr arcC r3.Arcs j8).toArray 28 (0, 0)), (ob16, .cells (arr (intC .i64) r14 j19).toArray 2 (0, 0)), (ob27, .cells (arr boolC r25 j30).toArray 4 (0, 0))]) ?_ ?_
              ·
                refine T.block ?_
                obtain ⟨o_5, e_5, K_5⟩ := bd_some H
                refine T.loopE3 (fun (m_5 : Nat) (sum65 : Int) (x66 : Int) => loopM (fun s => m_acequialaw04_CutAcross_s5 r25 r42 s.1 s.2) m_5 (sum65, x66) = some o_5) (fun (m_5 : Nat) (sum65 : Int) (x66 : Int) => [(3, .pointer (some ⟨b1, 0, none⟩)), (7, .slice (sb ob16) n17 c18), (8, .slice (sb ob27) n28 c29), (9, .int .i64 r36), (11, .int .i64 r39), (13, .slice (sb ob45) n46 c47), (15, .int .i64 sum65), (70, .slice (sb ob27) n28 c29), (71, .int .i64 (r25.length : Int)), (72, .int .i64 x66)]) (fun (m_5 : Nat) (sum65 : Int) (x66 : Int) => [(some b1, .cells #[.int .i64 r3.N, .int .i64 r3.S, .int .i64 r3.T, .slice (sb ob5) n6 c7] 24 (0, 0)), (ob5, .cells (arr arcC r3.Arcs j8).toArray 28 (0, 0)), (ob16, .cells (arr (intC .i64) r14 j19).toArray 2 (0, 0)), (ob27, .cells (arr boolC r25 j30).toArray 4 (0, 0)), (ob45, .cells (arr (intC .i64) r42 j48).toArray 2 (0, 0))]) (fun (m_5 : Nat) (sum65 : Int) (x66 : Int) => m_5) FUEL 0 0 e_5 (AllF.cons rfl (AllF.cons rfl (AllF.cons rfl (AllF.cons rfl (AllF.cons rfl (AllF.cons rfl (AllF.cons rfl (AllF.cons rfl (AllF.cons rfl (AllF.cons rfl AllF.nil)))))))))) (Pick.cons (Take.tail (Take.tail (Take.head _ _))) (Pick.cons (Take.tail (Take.tail (Take.head _ _))) (Pick.cons (Take.tail (Take.tail (Take.head _ _))) (Pick.cons (Take.tail (Take.head _ _)) (Pick.cons (Take.head _ _) Pick.nil))))) ?_
                rintro m_5 sum65 x66 H
                obtain ⟨n_5, r_5, rfl, H, C_5⟩ := loopM_some H
                have H : m_acequialaw04_CutAcross_s5 r25 r42 sum65 x66 = some r_5 := H
                unfold m_acequialaw04_CutAcross_s5 at H
                refine T.seq ?_
                refine T.regionL (ll := [0]) rfl ?_
                refine TO.bin rfl rfl rfl rfl rfl rfl ?_
                refine TO.done ?_
                refine X.seq_normal ?_
                refine T.seq ?_
                rcases ite_some H with ⟨g67, H⟩ | ⟨g67, H⟩
                ·
                  refine T.condPT rfl g67 ?_
                  refine T.skip ?_
                  refine X.seq_normal ?_
                  refine T.seq ?_
                  refine T.block ?_
                  refine T.seq ?_
                  obtain ⟨g68, H⟩ := gd_some H
                  refine T.regionL (ll := [0, 1, 2, 3, 4]) rfl ?_
                  refine TO.move rfl rfl rfl rfl ?_
                  refine TO.ixV hz34 hc32 hn31 g68 rfl rfl rfl rfl rfl TWLCutAcross.l31 TWLCutAcross.n4 ?_
                  refine TO.ldBV hz34 hc32 hn31 g68 rfl rfl rfl rfl TWLCutAcross.s4 (List.Mem.tail _ (List.Mem.tail _ (List.Mem.tail _ (List.Mem.head _)))) ?_
                  refine TO.assign rfl rfl rfl rfl ?_
                  refine TO.assign rfl rfl rfl rfl ?_
                  refine TO.done ?_
                  refine X.seq_normal ?_
                  refine T.seq ?_
                  refine T.regionL (ll := [0, 1]) rfl ?_
                  refine TO.move rfl rfl rfl rfl ?_
                  refine TO.not rfl rfl rfl rfl ?_
                  refine TO.done ?_
                  refine X.seq_normal ?_
                  rcases ite_some H with ⟨g69, H⟩ | ⟨g69, H⟩
                  ·
                    refine T.condT rfl g69 ?_
                    obtain ⟨g70, H⟩ := gd_some H
                    obtain ⟨g71, H⟩ := gd_some H
                    refine T.regionL (ll := [0, 1, 2, 3, 4, 5, 6]) rfl ?_
                    refine TO.move rfl rfl rfl rfl ?_
                    refine TO.move rfl rfl rfl rfl ?_
                    refine TO.move rfl rfl rfl rfl ?_
                    refine TO.ixV hz52 hc50 hn49 g70 rfl rfl rfl rfl rfl TWLCutAcross.l25 TWLCutAcross.n2 ?_
                    refine TO.ldIV hz52 hc50 hn49 g70 rfl rfl rfl rfl TWLCutAcross.s2 (List.Mem.tail _ (List.Mem.tail _ (List.Mem.tail _ (List.Mem.tail _ (List.Mem.head _))))) ?_
                    refine TO.addG g71 rfl rfl rfl rfl rfl ?_
                    refine TO.assign rfl rfl rfl rfl ?_
                    refine TO.done ?_
                    refine X.block_normal ?_
                    refine X.seq_normal ?_
                    refine T.trim (AllF.cons (t := 3) rfl (AllF.cons (t := 7) rfl (AllF.cons (t := 8) rfl (AllF.cons (t := 9) rfl (AllF.cons (t := 11) rfl (AllF.cons (t := 13) rfl (AllF.cons (t := 15) rfl (AllF.cons (t := 70) rfl (AllF.cons (t := 71) rfl (AllF.cons (t := 72) rfl AllF.nil)))))))))) ?_
                    obtain ⟨g72, H⟩ := gd_some H
                    refine T.regionL (ll := [0, 1]) rfl ?_
                    refine TO.addG g72 rfl rfl rfl rfl rfl ?_
                    refine TO.move rfl rfl rfl rfl ?_
                    refine TO.done ?_
                    have H := loop_next H C_5
                    exact X.againE3 n_5 (sum65 + (r42.getD x66.toNat 0)) (x66 + 1) H (Nat.lt_succ_self _) (AllF.cons rfl (AllF.cons rfl (AllF.cons rfl (AllF.cons rfl (AllF.cons rfl (AllF.cons rfl (AllF.cons rfl (AllF.cons rfl (AllF.cons rfl (AllF.cons rfl AllF.nil)))))))))) (Pick.cons (Take.head _ _) (Pick.cons (Take.head _ _) (Pick.cons (Take.head _ _) (Pick.cons (Take.head _ _) (Pick.cons (Take.head _ _) Pick.nil)))))
                  ·
                    refine T.condF rfl (Bool.eq_false_iff.2 g69) ?_
                    refine T.skip ?_
                    refine X.block_normal ?_
                    refine X.seq_normal ?_
                    refine T.trim (AllF.cons (t := 3) rfl (AllF.cons (t := 7) rfl (AllF.cons (t := 8) rfl (AllF.cons (t := 9) rfl (AllF.cons (t := 11) rfl (AllF.cons (t := 13) rfl (AllF.cons (t := 15) rfl (AllF.cons (t := 70) rfl (AllF.cons (t := 71) rfl (AllF.cons (t := 72) rfl AllF.nil)))))))))) ?_
                    obtain ⟨g73, H⟩ := gd_some H
                    refine T.regionL (ll := [0, 1]) rfl ?_
                    refine TO.addG g73 rfl rfl rfl rfl rfl ?_
                    refine TO.move rfl rfl rfl rfl ?_
                    refine TO.done ?_
                    have H := loop_next H C_5
                    exact X.againE3 n_5 sum65 (x66 + 1) H (Nat.lt_succ_self _) (AllF.cons rfl (AllF.cons rfl (AllF.cons rfl (AllF.cons rfl (AllF.cons rfl (AllF.cons rfl (AllF.cons rfl (AllF.cons rfl (AllF.cons rfl (AllF.cons rfl AllF.nil)))))))))) (Pick.cons (Take.head _ _) (Pick.cons (Take.head _ _) (Pick.cons (Take.head _ _) (Pick.cons (Take.head _ _) (Pick.cons (Take.head _ _) Pick.nil)))))
                ·
                  refine T.condPF rfl g67 ?_
                  refine T.exit ?_
                  refine X.then_exit ?_
                  have H := loop_exitE H C_5 ▸ K_5
                  refine X.then_exit ?_
                  refine X.block_here ?_
                  exact X.metE1 sum65 H (AllF.cons rfl (AllF.cons rfl (AllF.cons rfl (AllF.cons rfl (AllF.cons rfl (AllF.cons rfl AllF.nil)))))) (Pick.cons (Take.head _ _) (Pick.cons (Take.head _ _) (Pick.cons (Take.head _ _) (Pick.cons (Take.head _ _) Pick.nil))))
              · rintro sum74 H
                unfold m_acequialaw04_CutAcross_j6 at H
                refine T.seq ?_
                refine T.seq ?_
                rcases ite_some H with ⟨g75, H⟩ | ⟨g75, H⟩
                ·
                  refine T.regionL (ll := [0, 1, 2, 3, 4, 5, 6, 7, 8, 9, 10, 11, 12, 13, 14, 15, 16, 17]) rfl ?_
                  refine TO.move rfl rfl rfl rfl ?_
                  refine TO.move rfl rfl rfl rfl ?_
                  refine TO.bin rfl rfl rfl rfl rfl rfl ?_
                  refine TO.move rfl rfl rfl rfl ?_
                  refine TO.decB (t := 89) (b' := true) rfl (decide_eq_true g75) ?_
                  refine TO.shut rfl rfl rfl rfl ?_
                  refine TO.shut rfl rfl rfl rfl ?_
                  refine TO.shut rfl rfl rfl rfl ?_
                  refine TO.pickT rfl rfl rfl rfl rfl ?_
                  refine TO.move rfl rfl rfl rfl ?_
                  refine TO.shut rfl rfl rfl rfl ?_
                  refine TO.shut rfl rfl rfl rfl ?_
                  refine TO.shut rfl rfl rfl rfl ?_
                  refine TO.shut rfl rfl rfl rfl ?_
                  refine TO.shut rfl rfl rfl rfl ?_
                  refine TO.shut rfl rfl rfl rfl ?_
                  refine TO.shut rfl rfl rfl rfl ?_
                  refine TO.shut rfl rfl rfl rfl ?_
                  refine TO.pickT rfl rfl rfl rfl rfl ?_
                  refine TO.done ?_
                  refine X.seq_normal ?_
                  refine T.trim (AllF.cons (t := 3) rfl (AllF.cons (t := 7) rfl (AllF.cons (t := 9) rfl (AllF.cons (t := 103) rfl AllF.nil)))) ?_
                  refine T.condT rfl rfl ?_
                  refine T.seq ?_
                  refine T.regionL (ll := [0]) rfl ?_
                  refine TO.assign rfl rfl rfl rfl ?_
                  refine TO.done ?_
                  refine X.seq_normal ?_
                  refine T.ret ?_
                  refine X.then_ret ?_
                  obtain rfl := ret1 H
                  exact X.ret1 rfl rfl rfl rfl (Res.tmp rfl) Pick.nil ⟨rfl, rfl⟩
                ·
                  rcases ite_some H with ⟨g76, H⟩ | ⟨g76, H⟩
                  ·
                    refine T.regionL (ll := [0, 1, 2, 3, 4, 5, 6, 7, 8, 9, 10, 11, 12, 13, 14, 15, 16, 17]) rfl ?_
                    refine TO.move rfl rfl rfl rfl ?_
                    refine TO.move rfl rfl rfl rfl ?_
                    refine TO.bin rfl rfl rfl rfl rfl rfl ?_
                    refine TO.move rfl rfl rfl rfl ?_
                    refine TO.decB (t := 89) (b' := false) rfl (decide_eq_false g75) ?_
                    refine TO.move rfl rfl rfl rfl ?_
                    refine TO.move rfl rfl rfl rfl ?_
                    refine TO.bin rfl rfl rfl rfl rfl rfl ?_
                    refine TO.pickF rfl rfl rfl rfl rfl ?_
                    refine TO.move rfl rfl rfl rfl ?_
                    refine TO.decB (t := 94) (b' := true) rfl (decide_eq_true g76) ?_
                    refine TO.shut rfl rfl rfl rfl ?_
                    refine TO.shut rfl rfl rfl rfl ?_
                    refine TO.shut rfl rfl rfl rfl ?_
                    refine TO.shut rfl rfl rfl rfl ?_
                    refine TO.shut rfl rfl rfl rfl ?_
                    refine TO.shut rfl rfl rfl rfl ?_
                    refine TO.shut rfl rfl rfl rfl ?_
                    refine TO.shut rfl rfl rfl rfl ?_
                    refine TO.pickT rfl rfl rfl rfl rfl ?_
                    refine TO.done ?_
                    refine X.seq_normal ?_
                    refine T.trim (AllF.cons (t := 3) rfl (AllF.cons (t := 7) rfl (AllF.cons (t := 9) rfl (AllF.cons (t := 103) rfl AllF.nil)))) ?_
                    refine T.condT rfl rfl ?_
                    refine T.seq ?_
                    refine T.regionL (ll := [0]) rfl ?_
                    refine TO.assign rfl rfl rfl rfl ?_
                    refine TO.done ?_
                    refine X.seq_normal ?_
                    refine T.ret ?_
                    refine X.then_ret ?_
                    obtain rfl := ret1 H
                    exact X.ret1 rfl rfl rfl rfl (Res.tmp rfl) Pick.nil ⟨rfl, rfl⟩
                  ·
                    obtain ⟨r77, e78, H⟩ := bd_some H
                    refine T.regionL (ll := [0, 1, 2, 3, 4, 5, 6, 7, 8, 9, 10, 11, 12, 13, 14, 15, 16, 17]) rfl ?_
                    refine TO.move rfl rfl rfl rfl ?_
                    refine TO.move rfl rfl rfl rfl ?_
                    refine TO.bin rfl rfl rfl rfl rfl rfl ?_
                    refine TO.move rfl rfl rfl rfl ?_
                    refine TO.decB (t := 89) (b' := false) rfl (decide_eq_false g75) ?_
                    refine TO.move rfl rfl rfl rfl ?_
                    refine TO.move rfl rfl rfl rfl ?_
                    refine TO.bin rfl rfl rfl rfl rfl rfl ?_
                    refine TO.pickF rfl rfl rfl rfl rfl ?_
                    refine TO.move rfl rfl rfl rfl ?_
                    refine TO.decB (t := 94) (b' := false) rfl (decide_eq_false g76) ?_
                    refine TO.move rfl rfl rfl rfl ?_
                    refine TO.move rfl rfl rfl rfl ?_
                    refine TO.bin rfl rfl rfl rfl rfl rfl ?_
                    refine TO.loadA rfl rfl rfl rfl TWLCutAcross.a24 (List.Mem.head _) rfl ?_
                    refine TO.move rfl rfl rfl rfl ?_
                    refine TO.move rfl rfl rfl rfl ?_
                    refine TO.callX TWLCutAcross.c46 rfl rfl rfl rfl (fun wc hwc => w_cut_Tight (n0 := r3) (f1 := r14) (s2 := r25) wc (hwc.rs (f := arcC) (s := 3) (xs := r3.Arcs) (j := j8) (fun _ => rfl) (List.Mem.tail _ (List.Mem.head _)) hn9 hc10 hz12) (hwc.rs (f := (intC .i64)) (s := 1) (xs := r14) (j := j19) (fun _ => rfl) (List.Mem.tail _ (List.Mem.tail _ (List.Mem.head _))) hn20 hc21 hz23) (hwc.rs (f := boolC) (s := 1) (xs := r25) (j := j30) (fun _ => rfl) (List.Mem.tail _ (List.Mem.tail _ (List.Mem.tail _ (List.Mem.head _)))) hn31 hc32 hz34) e78) ?_
                    rintro _ _ ⟨rfl, rfl⟩
                    refine TO.neb rfl rfl rfl rfl rfl TWLCutAcross.u4 ?_
                    refine TO.pickF rfl rfl rfl rfl rfl ?_
                    refine TO.done ?_
                    refine X.seq_normal ?_
                    refine T.trim (AllF.cons (t := 3) rfl (AllF.cons (t := 7) rfl (AllF.cons (t := 9) rfl (AllF.cons (t := 103) rfl AllF.nil)))) ?_
                    rcases ite_some H with ⟨g79, H⟩ | ⟨g79, H⟩
                    ·
                      refine T.condT rfl g79 ?_
                      refine T.seq ?_
                      refine T.regionL (ll := [0]) rfl ?_
                      refine TO.assign rfl rfl rfl rfl ?_
                      refine TO.done ?_
                      refine X.seq_normal ?_
                      refine T.ret ?_
                      refine X.then_ret ?_
                      obtain rfl := ret1 H
                      exact X.ret1 rfl rfl rfl rfl (Res.tmp rfl) Pick.nil ⟨rfl, rfl⟩
                    ·
                      refine T.condF rfl (Bool.eq_false_iff.2 g79) ?_
                      refine T.skip ?_
                      refine X.seq_normal ?_
                      refine T.seq ?_
                      refine T.seq ?_
                      obtain ⟨⟨r80, r81⟩, e82, H⟩ := bd_some H
                      refine T.regionL (ll := [0, 1, 2, 3, 4, 5, 6, 7]) rfl ?_
                      refine TO.loadA rfl rfl rfl rfl TWLCutAcross.a24 (List.Mem.head _) rfl ?_
                      refine TO.move rfl rfl rfl rfl ?_
                      refine TO.callX TWLCutAcross.c29 rfl rfl rfl rfl (fun wc hwc => w_flow_Value (n0 := r3) (f1 := r14) wc (hwc.rs (f := arcC) (s := 3) (xs := r3.Arcs) (j := j8) (fun _ => rfl) (List.Mem.tail _ (List.Mem.head _)) hn9 hc10 hz12) (hwc.rs (f := (intC .i64)) (s := 1) (xs := r14) (j := j19) (fun _ => rfl) (List.Mem.tail _ (List.Mem.tail _ (List.Mem.head _))) hn20 hc21 hz23) e82) ?_
                      rintro _ _ ⟨rfl, rfl⟩
                      refine TO.move rfl rfl rfl rfl ?_
                      refine TO.extract rfl rfl rfl rfl rfl ?_
                      refine TO.extract rfl rfl rfl rfl rfl ?_
                      refine TO.assign rfl rfl rfl rfl ?_
                      refine TO.assign rfl rfl rfl rfl ?_
                      refine TO.done ?_
                      refine X.seq_normal ?_
                      refine T.trim (AllF.cons (t := 9) rfl (AllF.cons (t := 18) rfl (AllF.cons (t := 19) rfl AllF.nil))) ?_
                      refine T.seq ?_
                      rcases ite_some H with ⟨g83, H⟩ | ⟨g83, H⟩
                      ·
                        refine T.regionL (ll := [0, 1, 2, 3, 4, 5, 6]) rfl ?_
                        refine TO.move rfl rfl rfl rfl ?_
                        refine TO.bin rfl rfl rfl rfl rfl rfl ?_
                        refine TO.move rfl rfl rfl rfl ?_
                        refine TO.decB (t := 112) (b' := true) rfl (decide_eq_true g83) ?_
                        refine TO.move rfl rfl rfl rfl ?_
                        refine TO.move rfl rfl rfl rfl ?_
                        refine TO.bin rfl rfl rfl rfl rfl rfl ?_
                        refine TO.pickT rfl rfl rfl rfl rfl ?_
                        refine TO.done ?_
                        refine X.seq_normal ?_
                        refine T.trim (AllF.cons (t := 116) rfl AllF.nil) ?_
                        rcases ite_some H with ⟨g84, H⟩ | ⟨g84, H⟩
                        ·
                          refine T.condPT rfl g84 ?_
                          refine T.seq ?_
                          refine T.regionL (ll := [0]) rfl ?_
                          refine TO.assign rfl rfl rfl rfl ?_
                          refine TO.done ?_
                          refine X.seq_normal ?_
                          refine T.ret ?_
                          refine X.then_ret ?_
                          obtain rfl := ret1 H
                          exact X.ret1 rfl rfl rfl rfl (Res.tmp rfl) Pick.nil ⟨rfl, rfl⟩
                        ·
                          refine T.condPF rfl g84 ?_
                          refine T.skip ?_
                          refine X.seq_normal ?_
                          refine T.seq ?_
                          obtain ⟨r85, e86, H⟩ := bd_some H
                          refine T.regionL (ll := [0, 1]) rfl ?_
                          refine TO.callX TWLCutAcross.c42 rfl rfl rfl rfl (fun wc hwc => w_acequialaw04_awake  wc  e86) ?_
                          rintro _ _ ⟨rfl, rfl⟩
                          refine TO.assign rfl rfl rfl rfl ?_
                          refine TO.done ?_
                          refine X.seq_normal ?_
                          refine T.ret ?_
                          obtain rfl := ret1 H
                          exact X.ret1 rfl rfl rfl rfl (Res.tmp rfl) Pick.nil ⟨rfl, rfl⟩
                      ·
                        refine T.regionL (ll := [0, 1, 2, 3, 4, 5, 6]) rfl ?_
                        refine TO.move rfl rfl rfl rfl ?_
                        refine TO.bin rfl rfl rfl rfl rfl rfl ?_
                        refine TO.move rfl rfl rfl rfl ?_
                        refine TO.decB (t := 112) (b' := false) rfl (decide_eq_false g83) ?_
                        refine TO.shut rfl rfl rfl rfl ?_
                        refine TO.shut rfl rfl rfl rfl ?_
                        refine TO.shut rfl rfl rfl rfl ?_
                        refine TO.pickF rfl rfl rfl rfl rfl ?_
                        refine TO.done ?_
                        refine X.seq_normal ?_
                        refine T.trim (AllF.cons (t := 116) rfl AllF.nil) ?_
                        refine T.condF rfl rfl ?_
                        refine T.skip ?_
                        refine X.seq_normal ?_
                        refine T.seq ?_
                        obtain ⟨r87, e88, H⟩ := bd_some H
                        refine T.regionL (ll := [0, 1]) rfl ?_
                        refine TO.callX TWLCutAcross.c42 rfl rfl rfl rfl (fun wc hwc => w_acequialaw04_awake  wc  e88) ?_
                        rintro _ _ ⟨rfl, rfl⟩
                        refine TO.assign rfl rfl rfl rfl ?_
                        refine TO.done ?_
                        refine X.seq_normal ?_
                        refine T.ret ?_
                        obtain rfl := ret1 H
                        exact X.ret1 rfl rfl rfl rfl (Res.tmp rfl) Pick.nil ⟨rfl, rfl⟩
end Go.Proofs.Ytcdbemdogkmahaa.Ax
