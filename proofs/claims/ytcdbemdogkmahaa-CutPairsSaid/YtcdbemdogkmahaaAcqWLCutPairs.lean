/- What a call does is what its model says: acequialaw04.CutPairs. (Printed by sx.py.) -/
import Derived.Test.YtcdbemdogkmahaaAcqMLCutPairs
import Derived.Test.YtcdbemdogkmahaaAcqSqR
import Derived.Test.YtcdbemdogkmahaaAcqWS4
namespace Go.Proofs.Ytcdbemdogkmahaa.Ax
open Go Go.Acq Go.RowKit Go.Proofs
set_option linter.unusedVariables false
set_option linter.unusedSimpArgs false
set_option maxHeartbeats 8000000
set_option maxRecDepth 20000
theorem TWLCutPairs.a24 : aggT Try.prog 24 4 = true := by kernel_rfl
theorem TWLCutPairs.c17 : callable Try.prog 17 = true := by kernel_rfl
theorem TWLCutPairs.c42 : callable Try.prog 42 = true := by kernel_rfl
theorem TWLCutPairs.c43 : callable Try.prog 43 = true := by kernel_rfl
theorem TWLCutPairs.c44 : callable Try.prog 44 = true := by kernel_rfl
theorem TWLCutPairs.c47 : callable Try.prog 47 = true := by kernel_rfl
theorem TWLCutPairs.c48 : callable Try.prog 48 = true := by kernel_rfl
theorem TWLCutPairs.c49 : callable Try.prog 49 = true := by kernel_rfl
theorem TWLCutPairs.n24 : sizeT Try.prog 24 = some 4 := by kernel_rfl

/-- acequia/acequialaw04.CutPairs -/
theorem w_acequialaw04_CutPairs {n0 : Net} {s1 : List Bool} {t2 : List Bool} {n0_Arcs_b : Option Addr} {n0_Arcs_n : Nat} {n0_Arcs_c : Nat} {s1_b : Option Addr} {s1_n : Nat} {s1_c : Nat} {t2_b : Option Addr} {t2_n : Nat} {t2_c : Nat} (w : World) (h_n0_Arcs : RS w [] arcC 3 n0_Arcs_b n0_Arcs_n n0_Arcs_c n0.Arcs) (h_s1 : RS w [] boolC 1 s1_b s1_n s1_c s1) (h_t2 : RS w [] boolC 1 t2_b t2_n t2_c t2) {r0 : Bool} (H : m_acequialaw04_CutPairs n0 s1 t2 = some r0) : Fnc Try.prog 14 #[.agg #[.int .i64 n0.N, .int .i64 n0.S, .int .i64 n0.T, .slice n0_Arcs_b n0_Arcs_n n0_Arcs_c], .slice s1_b s1_n s1_c, .slice t2_b t2_n t2_c] w [] (fun v N => v = .bool r0 ∧ N = []) := by
  unfold m_acequialaw04_CutPairs at H
  refine Fnc.enter (vs := [.agg #[.int .i64 n0.N, .int .i64 n0.S, .int .i64 n0.T, .slice n0_Arcs_b n0_Arcs_n n0_Arcs_c], .slice s1_b s1_n s1_c, .slice t2_b t2_n t2_c]) Try.func14 rfl rfl (Inv.refl w) ?_
  refine T.seq ?_
  refine T.regionL (ll := [0, 1]) rfl ?_
  refine TO.boxA rfl rfl rfl rfl ?_; intro b1
  refine TO.assign rfl rfl rfl rfl ?_
  refine TO.done ?_
  refine X.seq_normal ?_
  refine T.seq ?_
  obtain ⟨r3, e4, H⟩ := bd_some H
  refine T.regionL (ll := [0, 1, 2]) rfl ?_
  refine TO.loadA rfl rfl rfl rfl TWLCutPairs.a24 (List.Mem.head _) rfl ?_
  refine TO.callX TWLCutPairs.c17 rfl rfl rfl rfl (fun wc hwc => w_acequialow_Some (n0 := n0) (verts1 := 30) (arcs2 := 60) wc (h_n0_Arcs.mono hwc) e4) ?_
  rintro _ _ ⟨ob5, n6, c7, j8, rfl, rfl, hn9, hc10, hj11, hz12⟩
  refine TO.storeA rfl rfl rfl rfl (Take.tail (Take.head _ _)) TWLCutPairs.n24 rfl rfl rfl ?_
  refine TO.done ?_
  refine X.seq_normal ?_
  refine T.seq ?_
  obtain ⟨r14, e15, H⟩ := bd_some H
  obtain ⟨r25, e26, H⟩ := bd_some H
  apply T.drawL [⟨[], false, [], relV _⟩, ⟨[], false, [], relV _⟩, ⟨[0, 1], false, [], fun _ v e => ∃ (ob16 : Option Nat) (n17 : Nat) (c18 : Nat) (j19 : List Value), v = .slice (sb ob16) n17 c18 ∧ e = [(ob16, .cells (arr boolC r14 j19).toArray 4 (0, 0))] ∧ r14.length = n17 ∧ n17 ≤ c18 ∧ j19.length = (c18 - n17) * 1 ∧ (ob16 = none → c18 = 0)⟩, ⟨[], false, [], relV _⟩, ⟨[], false, [], relV _⟩] [19, 20, 21, 22, 23] 5 (HRk [[]]) [[]] [] [(some b1, .cells #[.int .i64 r3.N, .int .i64 r3.S, .int .i64 r3.T, .slice (sb ob5) n6 c7] 24 (0, 0)), (ob5, .cells (arr arcC r3.Arcs j8).toArray 28 (0, 0))]
  · exact mixed
  · exact rfl
  · kernel_rfl
  · kernel_rfl
  · kernel_rfl
  · exact rfl
  · exact rfl
  · exact rfl
  · exact rfl
  · exact (by repeat (first | exact Pick.refl _ | exact Pick.nil | apply Pick.none | refine Pick.cons (by repeat (first | exact Take.head _ _ | apply Take.tail)) ?_))
  · refine ⟨?_, ?_, ?_, ?_, ?_, trivial⟩
    · rintro vs es Es Hx -
      refine TO.reenv (D := []) rfl ?_
      refine TO.loadA rfl rfl rfl rfl TWLCutPairs.a24 (List.Mem.head _) rfl ?_
      refine TO.done ?_; exact X.obQ rfl ⟨rfl, rfl⟩ (Pick.refl _) rfl
    · rintro vs es Es Hx -
      refine TO.reenv (D := []) rfl ?_
      refine TO.move rfl rfl rfl rfl ?_
      refine TO.done ?_; exact X.obQ rfl ⟨rfl, rfl⟩ (Pick.refl _) rfl
    · rintro vs es Es Hx ⟨⟨h_0, e_0⟩, ⟨h_1, e_1⟩, -⟩
      refine TO.reenv (D := [(19, vs 0), (20, vs 1)]) rfl ?_; rw [h_0, h_1]
      refine TO.callX TWLCutPairs.c43 rfl rfl rfl rfl (fun wc hwc => w_acequialaw04_side (n0 := r3) (s1 := s1) wc (hwc.rs (f := arcC) (s := 3) (xs := r3.Arcs) (j := j8) (fun _ => rfl) (List.Mem.tail _ (List.Mem.head _)) hn9 hc10 hz12) (h_s1.mono hwc) e15) ?_
      rintro _ _ ⟨ob16, n17, c18, j19, rfl, rfl, hn20, hc21, hj22, hz23⟩
      refine TO.done ?_; exact X.obQ rfl ⟨ob16, n17, c18, j19, rfl, rfl, hn20, hc21, hj22, hz23⟩ (by repeat (first | exact Pick.refl _ | exact Pick.nil | apply Pick.none | refine Pick.cons (by repeat (first | exact Take.head _ _ | apply Take.tail)) ?_)) (by show [(19, vs 0), (20, vs 1)] = _; rw [h_0, h_1])
    · rintro vs es Es Hx -
      refine TO.reenv (D := []) rfl ?_
      refine TO.loadA rfl rfl rfl rfl TWLCutPairs.a24 (List.Mem.head _) rfl ?_
      refine TO.done ?_; exact X.obQ rfl ⟨rfl, rfl⟩ (Pick.refl _) rfl
    · rintro vs es Es Hx -
      refine TO.reenv (D := []) rfl ?_
      refine TO.move rfl rfl rfl rfl ?_
      refine TO.done ?_; exact X.obQ rfl ⟨rfl, rfl⟩ (Pick.refl _) rfl
  · rintro vs es hb ⟨⟨h_0, e_0⟩, ⟨h_1, e_1⟩, ⟨ob16, n17, c18, j19, h_2, e_2, hn20, hc21, hj22, hz23⟩, ⟨h_3, e_3⟩, ⟨h_4, e_4⟩, -⟩ hHR
    obtain rfl : hb = [] := hHR
    refine TO.reenv (D := [(19, vs 0), (20, vs 1), (21, vs 2), (22, vs 3), (23, vs 4)]) rfl ?_
    refine TO.reheap (H := [(some b1, .cells #[.int .i64 r3.N, .int .i64 r3.S, .int .i64 r3.T, .slice (sb ob5) n6 c7] 24 (0, 0)), (ob5, .cells (arr arcC r3.Arcs j8).toArray 28 (0, 0)), (ob16, .cells (arr boolC r14 j19).toArray 4 (0, 0))]) (by show _ ++ (_ ++ (es 0 ++ (es 1 ++ (es 2 ++ (es 3 ++ (es 4 ++ ([]))))))) = _; rw [e_0, e_1, e_2, e_3, e_4]; rfl) ?_
    rw [h_0, h_1, h_2, h_3, h_4]
    clear h_4 h_3 h_2 h_1 h_0 e_0 e_1 e_2 e_3 e_4
    refine TO.callX TWLCutPairs.c43 rfl rfl rfl rfl (fun wc hwc => w_acequialaw04_side (n0 := r3) (s1 := t2) wc (hwc.rs (f := arcC) (s := 3) (xs := r3.Arcs) (j := j8) (fun _ => rfl) (List.Mem.tail _ (List.Mem.head _)) hn9 hc10 hz12) (h_t2.mono hwc) e26) ?_
    rintro _ _ ⟨ob27, n28, c29, j30, rfl, rfl, hn31, hc32, hj33, hz34⟩
    refine TO.assign rfl rfl rfl rfl ?_
    refine TO.assign rfl rfl rfl rfl ?_
    refine TO.done ?_
    refine X.seq_normal ?_
    refine T.trim (AllF.cons (t := 3) rfl (AllF.cons (t := 7) rfl (AllF.cons (t := 8) rfl AllF.nil))) ?_
    refine T.seq ?_
    obtain ⟨⟨r36, r37⟩, e38, H⟩ := bd_some H
    refine T.regionL (ll := [0, 1, 2, 3, 4, 5, 6, 7]) rfl ?_
    refine TO.loadA rfl rfl rfl rfl TWLCutPairs.a24 (List.Mem.tail _ (List.Mem.head _)) rfl ?_
    refine TO.move rfl rfl rfl rfl ?_
    refine TO.callX TWLCutPairs.c44 rfl rfl rfl rfl (fun wc hwc => w_cut_Cap (n0 := r3) (s1 := r14) wc (hwc.rs (f := arcC) (s := 3) (xs := r3.Arcs) (j := j8) (fun _ => rfl) (List.Mem.tail _ (List.Mem.tail _ (List.Mem.head _))) hn9 hc10 hz12) (hwc.rs (f := boolC) (s := 1) (xs := r14) (j := j19) (fun _ => rfl) (List.Mem.tail _ (List.Mem.tail _ (List.Mem.tail _ (List.Mem.head _)))) hn20 hc21 hz23) e38) ?_
    rintro _ _ ⟨rfl, rfl⟩
    refine TO.move rfl rfl rfl rfl ?_
    refine TO.extract rfl rfl rfl rfl rfl ?_
    refine TO.extract rfl rfl rfl rfl rfl ?_
    refine TO.assign rfl rfl rfl rfl ?_
    refine TO.assign rfl rfl rfl rfl ?_
    refine TO.done ?_
    refine X.seq_normal ?_
    refine T.seq ?_
    obtain ⟨⟨r39, r40⟩, e41, H⟩ := bd_some H
    refine T.regionL (ll := [0, 1, 2, 3, 4, 5, 6, 7]) rfl ?_
    refine TO.loadA rfl rfl rfl rfl TWLCutPairs.a24 (List.Mem.tail _ (List.Mem.head _)) rfl ?_
    refine TO.move rfl rfl rfl rfl ?_
    refine TO.callX TWLCutPairs.c44 rfl rfl rfl rfl (fun wc hwc => w_cut_Cap (n0 := r3) (s1 := r25) wc (hwc.rs (f := arcC) (s := 3) (xs := r3.Arcs) (j := j8) (fun _ => rfl) (List.Mem.tail _ (List.Mem.tail _ (List.Mem.head _))) hn9 hc10 hz12) (hwc.rs (f := boolC) (s := 1) (xs := r25) (j := j30) (fun _ => rfl) (List.Mem.head _) hn31 hc32 hz34) e41) ?_
    rintro _ _ ⟨rfl, rfl⟩
    refine TO.move rfl rfl rfl rfl ?_
    refine TO.extract rfl rfl rfl rfl rfl ?_
    refine TO.extract rfl rfl rfl rfl rfl ?_
    refine TO.assign rfl rfl rfl rfl ?_
    refine TO.assign rfl rfl rfl rfl ?_
    refine TO.done ?_
    refine X.seq_normal ?_
    refine T.trim (AllF.cons (t := 3) rfl (AllF.cons (t := 7) rfl (AllF.cons (t := 8) rfl (AllF.cons (t := 9) rfl (AllF.cons (t := 10) rfl (AllF.cons (t := 11) rfl (AllF.cons (t := 12) rfl AllF.nil))))))) ?_
    refine T.seq ?_
    obtain ⟨r42, e43, H⟩ := bd_some H
    obtain ⟨⟨r53, r54⟩, e55, H⟩ := bd_some H
    apply T.drawL [⟨[], false, [], relV _⟩, ⟨[], false, [], relV _⟩, ⟨[], false, [], relV _⟩, ⟨[1, 2], false, [], fun _ v e => ∃ (ob44 : Option Nat) (n45 : Nat) (c46 : Nat) (j47 : List Value), v = .slice (sb ob44) n45 c46 ∧ e = [(ob44, .cells (arr boolC r42 j47).toArray 4 (0, 0))] ∧ r42.length = n45 ∧ n45 ≤ c46 ∧ j47.length = (c46 - n45) * 1 ∧ (ob44 = none → c46 = 0)⟩, ⟨[0, 3], false, [], relV _⟩, ⟨[4], false, [], relV _⟩, ⟨[5], false, [], relV _⟩, ⟨[5], false, [], relV _⟩, ⟨[6], false, [], relV _⟩] [38, 39, 40, 41, 42, 37, 43, 44, 13] 9 (HRk [[]]) [[]] [] [(ob27, .cells (arr boolC r25 j30).toArray 4 (0, 0)), (some b1, .cells #[.int .i64 r3.N, .int .i64 r3.S, .int .i64 r3.T, .slice (sb ob5) n6 c7] 24 (0, 0)), (ob5, .cells (arr arcC r3.Arcs j8).toArray 28 (0, 0)), (ob16, .cells (arr boolC r14 j19).toArray 4 (0, 0))]
    · exact mixed
    · exact rfl
    · kernel_rfl
    · kernel_rfl
    · kernel_rfl
    · exact rfl
    · exact rfl
    · exact rfl
    · exact rfl
    · exact (by repeat (first | exact Pick.refl _ | exact Pick.nil | apply Pick.none | refine Pick.cons (by repeat (first | exact Take.head _ _ | apply Take.tail)) ?_))
    · refine ⟨?_, ?_, ?_, ?_, ?_, ?_, ?_, ?_, ?_, trivial⟩
      · rintro vs es Es Hx -
        refine TO.reenv (D := []) rfl ?_
        refine TO.loadA rfl rfl rfl rfl TWLCutPairs.a24 (List.Mem.tail _ (List.Mem.head _)) rfl ?_
        refine TO.done ?_; exact X.obQ rfl ⟨rfl, rfl⟩ (Pick.refl _) rfl
      · rintro vs es Es Hx -
        refine TO.reenv (D := []) rfl ?_
        refine TO.move rfl rfl rfl rfl ?_
        refine TO.done ?_; exact X.obQ rfl ⟨rfl, rfl⟩ (Pick.refl _) rfl
      · rintro vs es Es Hx -
        refine TO.reenv (D := []) rfl ?_
        refine TO.move rfl rfl rfl rfl ?_
        refine TO.done ?_; exact X.obQ rfl ⟨rfl, rfl⟩ (Pick.refl _) rfl
      · rintro vs es Es Hx ⟨⟨h_1, e_1⟩, ⟨h_2, e_2⟩, -⟩
        refine TO.reenv (D := [(39, vs 1), (40, vs 2)]) rfl ?_; rw [h_1, h_2]
        refine TO.callX TWLCutPairs.c47 rfl rfl rfl rfl (fun wc hwc => w_cut_And (a0 := r14) (b1 := r25) wc (hwc.rs (f := boolC) (s := 1) (xs := r14) (j := j19) (fun _ => rfl) (List.Mem.tail _ (List.Mem.tail _ (List.Mem.tail _ (List.Mem.head _)))) hn20 hc21 hz23) (hwc.rs (f := boolC) (s := 1) (xs := r25) (j := j30) (fun _ => rfl) (List.Mem.head _) hn31 hc32 hz34) e43) ?_
        rintro _ _ ⟨ob44, n45, c46, j47, rfl, rfl, hn48, hc49, hj50, hz51⟩
        refine TO.done ?_; exact X.obQ rfl ⟨ob44, n45, c46, j47, rfl, rfl, hn48, hc49, hj50, hz51⟩ (by repeat (first | exact Pick.refl _ | exact Pick.nil | apply Pick.none | refine Pick.cons (by repeat (first | exact Take.head _ _ | apply Take.tail)) ?_)) (by show [(39, vs 1), (40, vs 2)] = _; rw [h_1, h_2])
      · rintro vs es Es Hx ⟨⟨h_0, e_0⟩, ⟨ob44, n45, c46, j47, h_3, e_3, hn48, hc49, hj50, hz51⟩, -⟩
        refine TO.reenv (D := [(38, vs 0), (41, vs 3)]) rfl ?_; rw [h_0, h_3]
        refine TO.reheap (H := [(ob27, .cells (arr boolC r25 j30).toArray 4 (0, 0)), (some b1, .cells #[.int .i64 r3.N, .int .i64 r3.S, .int .i64 r3.T, .slice (sb ob5) n6 c7] 24 (0, 0)), (ob5, .cells (arr arcC r3.Arcs j8).toArray 28 (0, 0)), (ob16, .cells (arr boolC r14 j19).toArray 4 (0, 0))] ++ ([(ob44, .cells (arr boolC r42 j47).toArray 4 (0, 0))] ++ Hx)) (by show _ ++ ((es 0 ++ (es 3 ++ ([]))) ++ _) = _; rw [e_0, e_3]; rfl) ?_
        refine TO.callX TWLCutPairs.c44 rfl rfl rfl rfl (fun wc hwc => w_cut_Cap (n0 := r3) (s1 := r42) wc (hwc.rs (f := arcC) (s := 3) (xs := r3.Arcs) (j := j8) (fun _ => rfl) (List.Mem.tail _ (List.Mem.tail _ (List.Mem.head _))) hn9 hc10 hz12) (hwc.rs (f := boolC) (s := 1) (xs := r42) (j := j47) (fun _ => rfl) (List.Mem.tail _ (List.Mem.tail _ (List.Mem.tail _ (List.Mem.tail _ (List.Mem.head _))))) hn48 hc49 hz51) e55) ?_
        rintro _ _ ⟨rfl, rfl⟩
        refine TO.done ?_; exact X.obQ rfl ⟨rfl, rfl⟩ (by show Pick (_ ++ (_ ++ ((es 0 ++ (es 3 ++ ([]))) ++ _))) _; rw [e_0, e_3]; exact (by repeat (first | exact Pick.refl _ | exact Pick.nil | apply Pick.none | refine Pick.cons (by repeat (first | exact Take.head _ _ | apply Take.tail)) ?_))) (by show [(38, vs 0), (41, vs 3)] = _; rw [h_0, h_3])
      · rintro vs es Es Hx ⟨⟨h_4, e_4⟩, -⟩
        refine TO.reenv (D := [(42, vs 4)]) rfl ?_; rw [h_4]
        refine TO.move rfl rfl rfl rfl ?_
        refine TO.done ?_; exact X.obQ rfl ⟨rfl, rfl⟩ (Pick.refl _) (by show [(42, vs 4)] = _; rw [h_4])
      · rintro vs es Es Hx ⟨⟨h_5, e_5⟩, -⟩
        refine TO.reenv (D := [(37, vs 5)]) rfl ?_; rw [h_5]
        refine TO.extract rfl rfl rfl rfl rfl ?_
        refine TO.done ?_; exact X.obQ rfl ⟨rfl, rfl⟩ (Pick.refl _) (by show [(37, vs 5)] = _; rw [h_5])
      · rintro vs es Es Hx ⟨⟨h_5, e_5⟩, -⟩
        refine TO.reenv (D := [(37, vs 5)]) rfl ?_; rw [h_5]
        refine TO.extract rfl rfl rfl rfl rfl ?_
        refine TO.done ?_; exact X.obQ rfl ⟨rfl, rfl⟩ (Pick.refl _) (by show [(37, vs 5)] = _; rw [h_5])
      · rintro vs es Es Hx ⟨⟨h_6, e_6⟩, -⟩
        refine TO.reenv (D := [(43, vs 6)]) rfl ?_; rw [h_6]
        refine TO.assign rfl rfl rfl rfl ?_
        refine TO.done ?_; exact X.obQ rfl ⟨rfl, rfl⟩ (Pick.refl _) (by show [(43, vs 6)] = _; rw [h_6])
    · rintro vs es hb ⟨⟨h_0, e_0⟩, ⟨h_1, e_1⟩, ⟨h_2, e_2⟩, ⟨ob44, n45, c46, j47, h_3, e_3, hn48, hc49, hj50, hz51⟩, ⟨h_4, e_4⟩, ⟨h_5, e_5⟩, ⟨h_6, e_6⟩, ⟨h_7, e_7⟩, ⟨h_8, e_8⟩, -⟩ hHR
      obtain rfl : hb = [] := hHR
      refine TO.reenv (D := [(38, vs 0), (39, vs 1), (40, vs 2), (41, vs 3), (42, vs 4), (37, vs 5), (43, vs 6), (44, vs 7), (13, vs 8)]) rfl ?_
      refine TO.reheap (H := [(ob27, .cells (arr boolC r25 j30).toArray 4 (0, 0)), (some b1, .cells #[.int .i64 r3.N, .int .i64 r3.S, .int .i64 r3.T, .slice (sb ob5) n6 c7] 24 (0, 0)), (ob5, .cells (arr arcC r3.Arcs j8).toArray 28 (0, 0)), (ob16, .cells (arr boolC r14 j19).toArray 4 (0, 0)), (ob44, .cells (arr boolC r42 j47).toArray 4 (0, 0))]) (by show _ ++ (_ ++ (es 0 ++ (es 1 ++ (es 2 ++ (es 3 ++ (es 4 ++ (es 5 ++ (es 6 ++ (es 7 ++ (es 8 ++ ([]))))))))))) = _; rw [e_0, e_1, e_2, e_3, e_4, e_5, e_6, e_7, e_8]; rfl) ?_
      rw [h_0, h_1, h_2, h_3, h_4, h_5, h_6, h_7, h_8]
      clear h_8 h_7 h_6 h_5 h_4 h_3 h_2 h_1 h_0 e_0 e_1 e_2 e_3 e_4 e_5 e_6 e_7 e_8
      refine TO.assign rfl rfl rfl rfl ?_
      refine TO.done ?_
      refine X.seq_normal ?_
      refine T.trim (AllF.cons (t := 3) rfl (AllF.cons (t := 7) rfl (AllF.cons (t := 8) rfl (AllF.cons (t := 9) rfl (AllF.cons (t := 10) rfl (AllF.cons (t := 11) rfl (AllF.cons (t := 12) rfl (AllF.cons (t := 13) rfl (AllF.cons (t := 14) rfl AllF.nil))))))))) ?_
      refine T.seq ?_
      obtain ⟨r56, e57, H⟩ := bd_some H
      obtain ⟨⟨r67, r68⟩, e69, H⟩ := bd_some H
      apply T.drawL [⟨[], false, [], relV _⟩, ⟨[], false, [], relV _⟩, ⟨[], false, [], relV _⟩, ⟨[1, 2], false, [], fun _ v e => ∃ (ob58 : Option Nat) (n59 : Nat) (c60 : Nat) (j61 : List Value), v = .slice (sb ob58) n59 c60 ∧ e = [(ob58, .cells (arr boolC r56 j61).toArray 4 (0, 0))] ∧ r56.length = n59 ∧ n59 ≤ c60 ∧ j61.length = (c60 - n59) * 1 ∧ (ob58 = none → c60 = 0)⟩, ⟨[0, 3], false, [], relV _⟩, ⟨[4], false, [], relV _⟩, ⟨[5], false, [], relV _⟩, ⟨[5], false, [], relV _⟩, ⟨[6], false, [], relV _⟩] [46, 47, 48, 49, 50, 45, 51, 52, 15] 9 (HRk [[]]) [[]] [] [(ob27, .cells (arr boolC r25 j30).toArray 4 (0, 0)), (some b1, .cells #[.int .i64 r3.N, .int .i64 r3.S, .int .i64 r3.T, .slice (sb ob5) n6 c7] 24 (0, 0)), (ob5, .cells (arr arcC r3.Arcs j8).toArray 28 (0, 0)), (ob16, .cells (arr boolC r14 j19).toArray 4 (0, 0)), (ob44, .cells (arr boolC r42 j47).toArray 4 (0, 0))]
      · exact mixed
      · exact rfl
      · kernel_rfl
      · kernel_rfl
      · kernel_rfl
      · exact rfl
      · exact rfl
      · exact rfl
      · exact rfl
      · exact (by repeat (first | exact Pick.refl _ | exact Pick.nil | apply Pick.none | refine Pick.cons (by repeat (first | exact Take.head _ _ | apply Take.tail)) ?_))
      · refine ⟨?_, ?_, ?_, ?_, ?_, ?_, ?_, ?_, ?_, trivial⟩
        · rintro vs es Es Hx -
          refine TO.reenv (D := []) rfl ?_
          refine TO.loadA rfl rfl rfl rfl TWLCutPairs.a24 (List.Mem.tail _ (List.Mem.head _)) rfl ?_
          refine TO.done ?_; exact X.obQ rfl ⟨rfl, rfl⟩ (Pick.refl _) rfl
        · rintro vs es Es Hx -
          refine TO.reenv (D := []) rfl ?_
          refine TO.move rfl rfl rfl rfl ?_
          refine TO.done ?_; exact X.obQ rfl ⟨rfl, rfl⟩ (Pick.refl _) rfl
        · rintro vs es Es Hx -
          refine TO.reenv (D := []) rfl ?_
          refine TO.move rfl rfl rfl rfl ?_
          refine TO.done ?_; exact X.obQ rfl ⟨rfl, rfl⟩ (Pick.refl _) rfl
        · rintro vs es Es Hx ⟨⟨h_1, e_1⟩, ⟨h_2, e_2⟩, -⟩
          refine TO.reenv (D := [(47, vs 1), (48, vs 2)]) rfl ?_; rw [h_1, h_2]
          refine TO.callX TWLCutPairs.c48 rfl rfl rfl rfl (fun wc hwc => w_cut_Or (a0 := r14) (b1 := r25) wc (hwc.rs (f := boolC) (s := 1) (xs := r14) (j := j19) (fun _ => rfl) (List.Mem.tail _ (List.Mem.tail _ (List.Mem.tail _ (List.Mem.head _)))) hn20 hc21 hz23) (hwc.rs (f := boolC) (s := 1) (xs := r25) (j := j30) (fun _ => rfl) (List.Mem.head _) hn31 hc32 hz34) e57) ?_
          rintro _ _ ⟨ob58, n59, c60, j61, rfl, rfl, hn62, hc63, hj64, hz65⟩
          refine TO.done ?_; exact X.obQ rfl ⟨ob58, n59, c60, j61, rfl, rfl, hn62, hc63, hj64, hz65⟩ (by repeat (first | exact Pick.refl _ | exact Pick.nil | apply Pick.none | refine Pick.cons (by repeat (first | exact Take.head _ _ | apply Take.tail)) ?_)) (by show [(47, vs 1), (48, vs 2)] = _; rw [h_1, h_2])
        · rintro vs es Es Hx ⟨⟨h_0, e_0⟩, ⟨ob58, n59, c60, j61, h_3, e_3, hn62, hc63, hj64, hz65⟩, -⟩
          refine TO.reenv (D := [(46, vs 0), (49, vs 3)]) rfl ?_; rw [h_0, h_3]
          refine TO.reheap (H := [(ob27, .cells (arr boolC r25 j30).toArray 4 (0, 0)), (some b1, .cells #[.int .i64 r3.N, .int .i64 r3.S, .int .i64 r3.T, .slice (sb ob5) n6 c7] 24 (0, 0)), (ob5, .cells (arr arcC r3.Arcs j8).toArray 28 (0, 0)), (ob16, .cells (arr boolC r14 j19).toArray 4 (0, 0)), (ob44, .cells (arr boolC r42 j47).toArray 4 (0, 0))] ++ ([(ob58, .cells (arr boolC r56 j61).toArray 4 (0, 0))] ++ Hx)) (by show _ ++ ((es 0 ++ (es 3 ++ ([]))) ++ _) = _; rw [e_0, e_3]; rfl) ?_
          refine TO.callX TWLCutPairs.c44 rfl rfl rfl rfl (fun wc hwc => w_cut_Cap (n0 := r3) (s1 := r56) wc (hwc.rs (f := arcC) (s := 3) (xs := r3.Arcs) (j := j8) (fun _ => rfl) (List.Mem.tail _ (List.Mem.tail _ (List.Mem.head _))) hn9 hc10 hz12) (hwc.rs (f := boolC) (s := 1) (xs := r56) (j := j61) (fun _ => rfl) (List.Mem.tail _ (List.Mem.tail _ (List.Mem.tail _ (List.Mem.tail _ (List.Mem.tail _ (List.Mem.head _)))))) hn62 hc63 hz65) e69) ?_
          rintro _ _ ⟨rfl, rfl⟩
          refine TO.done ?_; exact X.obQ rfl ⟨rfl, rfl⟩ (by show Pick (_ ++ (_ ++ ((es 0 ++ (es 3 ++ ([]))) ++ _))) _; rw [e_0, e_3]; exact (by repeat (first | exact Pick.refl _ | exact Pick.nil | apply Pick.none | refine Pick.cons (by repeat (first | exact Take.head _ _ | apply Take.tail)) ?_))) (by show [(46, vs 0), (49, vs 3)] = _; rw [h_0, h_3])
        · rintro vs es Es Hx ⟨⟨h_4, e_4⟩, -⟩
          refine TO.reenv (D := [(50, vs 4)]) rfl ?_; rw [h_4]
          refine TO.move rfl rfl rfl rfl ?_
          refine TO.done ?_; exact X.obQ rfl ⟨rfl, rfl⟩ (Pick.refl _) (by show [(50, vs 4)] = _; rw [h_4])
        · rintro vs es Es Hx ⟨⟨h_5, e_5⟩, -⟩
          refine TO.reenv (D := [(45, vs 5)]) rfl ?_; rw [h_5]
          refine TO.extract rfl rfl rfl rfl rfl ?_
          refine TO.done ?_; exact X.obQ rfl ⟨rfl, rfl⟩ (Pick.refl _) (by show [(45, vs 5)] = _; rw [h_5])
        · rintro vs es Es Hx ⟨⟨h_5, e_5⟩, -⟩
          refine TO.reenv (D := [(45, vs 5)]) rfl ?_; rw [h_5]
          refine TO.extract rfl rfl rfl rfl rfl ?_
          refine TO.done ?_; exact X.obQ rfl ⟨rfl, rfl⟩ (Pick.refl _) (by show [(45, vs 5)] = _; rw [h_5])
        · rintro vs es Es Hx ⟨⟨h_6, e_6⟩, -⟩
          refine TO.reenv (D := [(51, vs 6)]) rfl ?_; rw [h_6]
          refine TO.assign rfl rfl rfl rfl ?_
          refine TO.done ?_; exact X.obQ rfl ⟨rfl, rfl⟩ (Pick.refl _) (by show [(51, vs 6)] = _; rw [h_6])
      · rintro vs es hb ⟨⟨h_0, e_0⟩, ⟨h_1, e_1⟩, ⟨h_2, e_2⟩, ⟨ob58, n59, c60, j61, h_3, e_3, hn62, hc63, hj64, hz65⟩, ⟨h_4, e_4⟩, ⟨h_5, e_5⟩, ⟨h_6, e_6⟩, ⟨h_7, e_7⟩, ⟨h_8, e_8⟩, -⟩ hHR
        obtain rfl : hb = [] := hHR
        refine TO.reenv (D := [(46, vs 0), (47, vs 1), (48, vs 2), (49, vs 3), (50, vs 4), (45, vs 5), (51, vs 6), (52, vs 7), (15, vs 8)]) rfl ?_
        refine TO.reheap (H := [(ob27, .cells (arr boolC r25 j30).toArray 4 (0, 0)), (some b1, .cells #[.int .i64 r3.N, .int .i64 r3.S, .int .i64 r3.T, .slice (sb ob5) n6 c7] 24 (0, 0)), (ob5, .cells (arr arcC r3.Arcs j8).toArray 28 (0, 0)), (ob16, .cells (arr boolC r14 j19).toArray 4 (0, 0)), (ob44, .cells (arr boolC r42 j47).toArray 4 (0, 0)), (ob58, .cells (arr boolC r56 j61).toArray 4 (0, 0))]) (by show _ ++ (_ ++ (es 0 ++ (es 1 ++ (es 2 ++ (es 3 ++ (es 4 ++ (es 5 ++ (es 6 ++ (es 7 ++ (es 8 ++ ([]))))))))))) = _; rw [e_0, e_1, e_2, e_3, e_4, e_5, e_6, e_7, e_8]; rfl) ?_
        rw [h_0, h_1, h_2, h_3, h_4, h_5, h_6, h_7, h_8]
        clear h_8 h_7 h_6 h_5 h_4 h_3 h_2 h_1 h_0 e_0 e_1 e_2 e_3 e_4 e_5 e_6 e_7 e_8
        refine TO.assign rfl rfl rfl rfl ?_
        refine TO.done ?_
        refine X.seq_normal ?_
        refine T.trim (AllF.cons (t := 7) rfl (AllF.cons (t := 8) rfl (AllF.cons (t := 9) rfl (AllF.cons (t := 10) rfl (AllF.cons (t := 11) rfl (AllF.cons (t := 12) rfl (AllF.cons (t := 13) rfl (AllF.cons (t := 14) rfl (AllF.cons (t := 15) rfl (AllF.cons (t := 16) rfl AllF.nil)))))))))) ?_
        refine T.seq ?_
        refine T.seq ?_
        refine T.regionL (ll := [0, 1, 2, 3, 4, 5, 6, 7, 8, 9, 10, 11, 12, 13, 14, 15, 16, 17, 18, 19, 20, 21, 22, 23, 24, 25, 26, 27, 28, 29, 30]) rfl ?_
        refine TO.move rfl rfl rfl rfl ?_
        refine TO.bin rfl rfl rfl rfl rfl rfl ?_
        refine TO.move rfl rfl rfl rfl ?_
        refine TO.join [3, 4, 5] [6, 7, 8, 9, 10, 11, 12, 13, 14, 15, 16, 17, 18, 19, 20, 21, 22, 23, 24, 25, 26, 27, 28, 29, 30] rfl 58 (fun b71 => m_acequialaw04_CutPairs_j1 r14 r25 r36 r39 r53 r54 r67 r68 b71 = some r0) [(7, .slice (sb ob16) n17 c18), (8, .slice (sb ob27) n28 c29), (9, .int .i64 r36), (11, .int .i64 r39), (13, .int .i64 r53), (14, .int .i64 r54), (15, .int .i64 r67), (16, .int .i64 r68)] ?_ ?_
        ·
          rcases ite_some H with ⟨g70, H⟩ | ⟨g70, H⟩
          ·
            refine TO.decB (t := 55) (b' := true) rfl (decide_eq_true g70) ?_
            refine TO.shut rfl rfl rfl rfl ?_
            refine TO.shut rfl rfl rfl rfl ?_
            refine TO.pickT rfl rfl rfl rfl rfl ?_
            refine TO.done ?_
            exact X.jn (b := true) H (AllF.cons rfl (AllF.cons rfl (AllF.cons rfl (AllF.cons rfl (AllF.cons rfl (AllF.cons rfl (AllF.cons rfl (AllF.cons rfl (AllF.cons rfl AllF.nil)))))))))
          ·
            refine TO.decB (t := 55) (b' := false) rfl (decide_eq_false g70) ?_
            refine TO.move rfl rfl rfl rfl ?_
            refine TO.bin rfl rfl rfl rfl rfl rfl ?_
            refine TO.pickF rfl rfl rfl rfl rfl ?_
            refine TO.done ?_
            exact X.jn (b := (decide (r40 ≠ 0))) H (AllF.cons rfl (AllF.cons rfl (AllF.cons rfl (AllF.cons rfl (AllF.cons rfl (AllF.cons rfl (AllF.cons rfl (AllF.cons rfl (AllF.cons rfl AllF.nil)))))))))
        · rintro b71 H
          unfold m_acequialaw04_CutPairs_j1 at H
          refine TO.move rfl rfl rfl rfl ?_
          refine TO.join [7, 8, 9] [10, 11, 12, 13, 14, 15, 16, 17, 18, 19, 20, 21, 22, 23, 24, 25, 26, 27, 28, 29, 30] rfl 62 (fun b73 => m_acequialaw04_CutPairs_j2 r14 r25 r36 r39 r53 r67 r68 b73 = some r0) [(7, .slice (sb ob16) n17 c18), (8, .slice (sb ob27) n28 c29), (9, .int .i64 r36), (11, .int .i64 r39), (13, .int .i64 r53), (15, .int .i64 r67), (16, .int .i64 r68)] ?_ ?_
          ·
            rcases ite_some H with ⟨g72, H⟩ | ⟨g72, H⟩
            ·
              refine TO.decB (t := 59) (b' := true) rfl g72 ?_
              refine TO.shut rfl rfl rfl rfl ?_
              refine TO.shut rfl rfl rfl rfl ?_
              refine TO.pickT rfl rfl rfl rfl rfl ?_
              refine TO.done ?_
              exact X.jn (b := true) H (AllF.cons rfl (AllF.cons rfl (AllF.cons rfl (AllF.cons rfl (AllF.cons rfl (AllF.cons rfl (AllF.cons rfl (AllF.cons rfl AllF.nil))))))))
            ·
              refine TO.decB (t := 59) (b' := false) rfl (Bool.eq_false_iff.2 g72) ?_
              refine TO.move rfl rfl rfl rfl ?_
              refine TO.bin rfl rfl rfl rfl rfl rfl ?_
              refine TO.pickF rfl rfl rfl rfl rfl ?_
              refine TO.done ?_
              exact X.jn (b := (decide (r54 ≠ 0))) H (AllF.cons rfl (AllF.cons rfl (AllF.cons rfl (AllF.cons rfl (AllF.cons rfl (AllF.cons rfl (AllF.cons rfl (AllF.cons rfl AllF.nil))))))))
          · rintro b73 H
            unfold m_acequialaw04_CutPairs_j2 at H
            refine TO.move rfl rfl rfl rfl ?_
            refine TO.join [11, 12, 13] [14, 15, 16, 17, 18, 19, 20, 21, 22, 23, 24, 25, 26, 27, 28, 29, 30] rfl 66 (fun b75 => m_acequialaw04_CutPairs_j3 r14 r25 r36 r39 r53 r67 b75 = some r0) [(7, .slice (sb ob16) n17 c18), (8, .slice (sb ob27) n28 c29), (9, .int .i64 r36), (11, .int .i64 r39), (13, .int .i64 r53), (15, .int .i64 r67)] ?_ ?_
            ·
              rcases ite_some H with ⟨g74, H⟩ | ⟨g74, H⟩
              ·
                refine TO.decB (t := 63) (b' := true) rfl g74 ?_
                refine TO.shut rfl rfl rfl rfl ?_
                refine TO.shut rfl rfl rfl rfl ?_
                refine TO.pickT rfl rfl rfl rfl rfl ?_
                refine TO.done ?_
                exact X.jn (b := true) H (AllF.cons rfl (AllF.cons rfl (AllF.cons rfl (AllF.cons rfl (AllF.cons rfl (AllF.cons rfl (AllF.cons rfl AllF.nil)))))))
              ·
                refine TO.decB (t := 63) (b' := false) rfl (Bool.eq_false_iff.2 g74) ?_
                refine TO.move rfl rfl rfl rfl ?_
                refine TO.bin rfl rfl rfl rfl rfl rfl ?_
                refine TO.pickF rfl rfl rfl rfl rfl ?_
                refine TO.done ?_
                exact X.jn (b := (decide (r68 ≠ 0))) H (AllF.cons rfl (AllF.cons rfl (AllF.cons rfl (AllF.cons rfl (AllF.cons rfl (AllF.cons rfl (AllF.cons rfl AllF.nil)))))))
            · rintro b75 H
              unfold m_acequialaw04_CutPairs_j3 at H
              refine TO.move rfl rfl rfl rfl ?_
              refine TO.join [15, 16, 17, 18, 19, 20, 21, 22] [23, 24, 25, 26, 27, 28, 29, 30] rfl 75 (fun b79 => m_acequialaw04_CutPairs_j4 r14 r25 r53 r67 b79 = some r0) [(7, .slice (sb ob16) n17 c18), (8, .slice (sb ob27) n28 c29), (13, .int .i64 r53), (15, .int .i64 r67)] ?_ ?_
              ·
                rcases ite_some H with ⟨g76, H⟩ | ⟨g76, H⟩
                ·
                  refine TO.decB (t := 67) (b' := true) rfl g76 ?_
                  refine TO.shut rfl rfl rfl rfl ?_
                  refine TO.shut rfl rfl rfl rfl ?_
                  refine TO.shut rfl rfl rfl rfl ?_
                  refine TO.shut rfl rfl rfl rfl ?_
                  refine TO.shut rfl rfl rfl rfl ?_
                  refine TO.shut rfl rfl rfl rfl ?_
                  refine TO.shut rfl rfl rfl rfl ?_
                  refine TO.pickT rfl rfl rfl rfl rfl ?_
                  refine TO.done ?_
                  exact X.jn (b := true) H (AllF.cons rfl (AllF.cons rfl (AllF.cons rfl (AllF.cons rfl (AllF.cons rfl AllF.nil)))))
                ·
                  obtain ⟨g77, H⟩ := gd_some H
                  obtain ⟨g78, H⟩ := gd_some H
                  refine TO.decB (t := 67) (b' := false) rfl (Bool.eq_false_iff.2 g76) ?_
                  refine TO.move rfl rfl rfl rfl ?_
                  refine TO.move rfl rfl rfl rfl ?_
                  refine TO.addG g77 rfl rfl rfl rfl rfl ?_
                  refine TO.move rfl rfl rfl rfl ?_
                  refine TO.move rfl rfl rfl rfl ?_
                  refine TO.addG g78 rfl rfl rfl rfl rfl ?_
                  refine TO.bin rfl rfl rfl rfl rfl rfl ?_
                  refine TO.pickF rfl rfl rfl rfl rfl ?_
                  refine TO.done ?_
                  exact X.jn (b := (decide ((r36 + r39) < (r53 + r67)))) H (AllF.cons rfl (AllF.cons rfl (AllF.cons rfl (AllF.cons rfl (AllF.cons rfl AllF.nil)))))
              · rintro b79 H
                unfold m_acequialaw04_CutPairs_j4 at H
                refine TO.move rfl rfl rfl rfl ?_
                refine TO.join [24, 25, 26] [27, 28, 29, 30] rfl 79 (fun b81 => m_acequialaw04_CutPairs_j5 r14 r25 r67 b81 = some r0) [(7, .slice (sb ob16) n17 c18), (8, .slice (sb ob27) n28 c29), (15, .int .i64 r67)] ?_ ?_
                ·
                  rcases ite_some H with ⟨g80, H⟩ | ⟨g80, H⟩
                  ·
                    refine TO.decB (t := 76) (b' := true) rfl g80 ?_
                    refine TO.shut rfl rfl rfl rfl ?_
                    refine TO.shut rfl rfl rfl rfl ?_
                    refine TO.pickT rfl rfl rfl rfl rfl ?_
                    refine TO.done ?_
                    exact X.jn (b := true) H (AllF.cons rfl (AllF.cons rfl (AllF.cons rfl (AllF.cons rfl AllF.nil))))
                  ·
                    refine TO.decB (t := 76) (b' := false) rfl (Bool.eq_false_iff.2 g80) ?_
                    refine TO.move rfl rfl rfl rfl ?_
                    refine TO.bin rfl rfl rfl rfl rfl rfl ?_
                    refine TO.pickF rfl rfl rfl rfl rfl ?_
                    refine TO.done ?_
                    exact X.jn (b := (decide (r53 < 0))) H (AllF.cons rfl (AllF.cons rfl (AllF.cons rfl (AllF.cons rfl AllF.nil))))
                · rintro b81 H
                  unfold m_acequialaw04_CutPairs_j5 at H
                  refine TO.move rfl rfl rfl rfl ?_
                  refine TO.join [28, 29, 30] [] rfl 83 (fun b83 => m_acequialaw04_CutPairs_j6 r14 r25 b83 = some r0) [(7, .slice (sb ob16) n17 c18), (8, .slice (sb ob27) n28 c29)] ?_ ?_
                  ·
                    rcases ite_some H with ⟨g82, H⟩ | ⟨g82, H⟩
                    ·
                      refine TO.decB (t := 80) (b' := true) rfl g82 ?_
                      refine TO.shut rfl rfl rfl rfl ?_
                      refine TO.shut rfl rfl rfl rfl ?_
                      refine TO.pickT rfl rfl rfl rfl rfl ?_
                      refine TO.done ?_
                      exact X.jn (b := true) H (AllF.cons rfl (AllF.cons rfl (AllF.cons rfl AllF.nil)))
                    ·
                      refine TO.decB (t := 80) (b' := false) rfl (Bool.eq_false_iff.2 g82) ?_
                      refine TO.move rfl rfl rfl rfl ?_
                      refine TO.bin rfl rfl rfl rfl rfl rfl ?_
                      refine TO.pickF rfl rfl rfl rfl rfl ?_
                      refine TO.done ?_
                      exact X.jn (b := (decide (r67 < 0))) H (AllF.cons rfl (AllF.cons rfl (AllF.cons rfl AllF.nil)))
                  · rintro b83 H
                    unfold m_acequialaw04_CutPairs_j6 at H
                    refine TO.done ?_
                    refine X.seq_normal ?_
                    rcases ite_some H with ⟨g84, H⟩ | ⟨g84, H⟩
                    ·
                      refine T.condT rfl g84 ?_
                      refine T.seq ?_
                      refine T.regionL (ll := [0]) rfl ?_
                      refine TO.assign rfl rfl rfl rfl ?_
                      refine TO.done ?_
                      refine X.seq_normal ?_
                      refine T.ret ?_
                      refine X.then_ret ?_
                      obtain rfl := ret1 H
                      exact X.ret1 rfl rfl rfl rfl (Res.tmp rfl) Pick.nil ⟨rfl, rfl⟩
                    ·
                      refine T.condF rfl (Bool.eq_false_iff.2 g84) ?_
                      refine T.skip ?_
                      refine X.seq_normal ?_
                      refine T.seq ?_
                      obtain ⟨r85, e86, H⟩ := bd_some H
                      obtain ⟨r96, e97, H⟩ := bd_some H
                      rcases ite_some H with ⟨g98, H⟩ | ⟨g98, H⟩
                      ·
                        obtain ⟨r99, e100, H⟩ := bd_some H
                        obtain ⟨r110, e111, H⟩ := bd_some H
                        obtain ⟨r121, e122, H⟩ := bd_some H
                        rcases ite_some H with ⟨g123, H⟩ | ⟨g123, H⟩
                        ·
                          obtain ⟨r124, e125, H⟩ := bd_some H
                          refine T.regionL (ll := [0, 1, 2, 3, 4, 5, 6, 7, 8, 9, 10, 11, 12, 13, 14, 15, 16, 17]) rfl ?_
                          refine TO.move rfl rfl rfl rfl ?_
                          refine TO.move rfl rfl rfl rfl ?_
                          refine TO.callX TWLCutPairs.c47 rfl rfl rfl rfl (fun wc hwc => w_cut_And (a0 := r14) (b1 := r14) wc (hwc.rs (f := boolC) (s := 1) (xs := r14) (j := j19) (fun _ => rfl) (List.Mem.tail _ (List.Mem.tail _ (List.Mem.tail _ (List.Mem.head _)))) hn20 hc21 hz23) (hwc.rs (f := boolC) (s := 1) (xs := r14) (j := j19) (fun _ => rfl) (List.Mem.tail _ (List.Mem.tail _ (List.Mem.tail _ (List.Mem.head _)))) hn20 hc21 hz23) e86) ?_
                          rintro _ _ ⟨ob87, n88, c89, j90, rfl, rfl, hn91, hc92, hj93, hz94⟩
                          refine TO.move rfl rfl rfl rfl ?_
                          refine TO.callX TWLCutPairs.c49 rfl rfl rfl rfl (fun wc hwc => w_acequialow_Bools (a0 := r85) (b1 := r14) wc (hwc.rs (f := boolC) (s := 1) (xs := r85) (j := j90) (fun _ => rfl) (List.Mem.head _) hn91 hc92 hz94) (hwc.rs (f := boolC) (s := 1) (xs := r14) (j := j19) (fun _ => rfl) (List.Mem.tail _ (List.Mem.tail _ (List.Mem.tail _ (List.Mem.tail _ (List.Mem.head _))))) hn20 hc21 hz23) e97) ?_
                          rintro _ _ ⟨rfl, rfl⟩
                          refine TO.move rfl rfl rfl rfl ?_
                          refine TO.decB (t := 89) (b' := true) rfl g98 ?_
                          refine TO.move rfl rfl rfl rfl ?_
                          refine TO.move rfl rfl rfl rfl ?_
                          refine TO.callX TWLCutPairs.c48 rfl rfl rfl rfl (fun wc hwc => w_cut_Or (a0 := r14) (b1 := r25) wc (hwc.rs (f := boolC) (s := 1) (xs := r14) (j := j19) (fun _ => rfl) (List.Mem.tail _ (List.Mem.tail _ (List.Mem.tail _ (List.Mem.tail _ (List.Mem.head _))))) hn20 hc21 hz23) (hwc.rs (f := boolC) (s := 1) (xs := r25) (j := j30) (fun _ => rfl) (List.Mem.tail _ (List.Mem.head _)) hn31 hc32 hz34) e100) ?_
                          rintro _ _ ⟨ob101, n102, c103, j104, rfl, rfl, hn105, hc106, hj107, hz108⟩
                          refine TO.move rfl rfl rfl rfl ?_
                          refine TO.move rfl rfl rfl rfl ?_
                          refine TO.callX TWLCutPairs.c48 rfl rfl rfl rfl (fun wc hwc => w_cut_Or (a0 := r25) (b1 := r14) wc (hwc.rs (f := boolC) (s := 1) (xs := r25) (j := j30) (fun _ => rfl) (List.Mem.tail _ (List.Mem.tail _ (List.Mem.head _))) hn31 hc32 hz34) (hwc.rs (f := boolC) (s := 1) (xs := r14) (j := j19) (fun _ => rfl) (List.Mem.tail _ (List.Mem.tail _ (List.Mem.tail _ (List.Mem.tail _ (List.Mem.tail _ (List.Mem.head _)))))) hn20 hc21 hz23) e111) ?_
                          rintro _ _ ⟨ob112, n113, c114, j115, rfl, rfl, hn116, hc117, hj118, hz119⟩
                          refine TO.callX TWLCutPairs.c49 rfl rfl rfl rfl (fun wc hwc => w_acequialow_Bools (a0 := r99) (b1 := r110) wc (hwc.rs (f := boolC) (s := 1) (xs := r99) (j := j104) (fun _ => rfl) (List.Mem.tail _ (List.Mem.head _)) hn105 hc106 hz108) (hwc.rs (f := boolC) (s := 1) (xs := r110) (j := j115) (fun _ => rfl) (List.Mem.head _) hn116 hc117 hz119) e122) ?_
                          rintro _ _ ⟨rfl, rfl⟩
                          refine TO.pickT rfl rfl rfl rfl rfl ?_
                          refine TO.move rfl rfl rfl rfl ?_
                          refine TO.decB (t := 98) (b' := true) rfl g123 ?_
                          refine TO.callX TWLCutPairs.c42 rfl rfl rfl rfl (fun wc hwc => w_acequialaw04_awake  wc  e125) ?_
                          rintro _ _ ⟨rfl, rfl⟩
                          refine TO.pickT rfl rfl rfl rfl rfl ?_
                          refine TO.assign rfl rfl rfl rfl ?_
                          refine TO.done ?_
                          refine X.seq_normal ?_
                          refine T.trim (AllF.cons (t := 6) rfl AllF.nil) ?_
                          refine T.ret ?_
                          obtain rfl := ret1 H
                          exact X.ret1 rfl rfl rfl rfl (Res.tmp rfl) Pick.nil ⟨rfl, rfl⟩
                        ·
                          refine T.regionL (ll := [0, 1, 2, 3, 4, 5, 6, 7, 8, 9, 10, 11, 12, 13, 14, 15, 16, 17]) rfl ?_
                          refine TO.move rfl rfl rfl rfl ?_
                          refine TO.move rfl rfl rfl rfl ?_
                          refine TO.callX TWLCutPairs.c47 rfl rfl rfl rfl (fun wc hwc => w_cut_And (a0 := r14) (b1 := r14) wc (hwc.rs (f := boolC) (s := 1) (xs := r14) (j := j19) (fun _ => rfl) (List.Mem.tail _ (List.Mem.tail _ (List.Mem.tail _ (List.Mem.head _)))) hn20 hc21 hz23) (hwc.rs (f := boolC) (s := 1) (xs := r14) (j := j19) (fun _ => rfl) (List.Mem.tail _ (List.Mem.tail _ (List.Mem.tail _ (List.Mem.head _)))) hn20 hc21 hz23) e86) ?_
                          rintro _ _ ⟨ob87, n88, c89, j90, rfl, rfl, hn91, hc92, hj93, hz94⟩
                          refine TO.move rfl rfl rfl rfl ?_
                          refine TO.callX TWLCutPairs.c49 rfl rfl rfl rfl (fun wc hwc => w_acequialow_Bools (a0 := r85) (b1 := r14) wc (hwc.rs (f := boolC) (s := 1) (xs := r85) (j := j90) (fun _ => rfl) (List.Mem.head _) hn91 hc92 hz94) (hwc.rs (f := boolC) (s := 1) (xs := r14) (j := j19) (fun _ => rfl) (List.Mem.tail _ (List.Mem.tail _ (List.Mem.tail _ (List.Mem.tail _ (List.Mem.head _))))) hn20 hc21 hz23) e97) ?_
                          rintro _ _ ⟨rfl, rfl⟩
                          refine TO.move rfl rfl rfl rfl ?_
                          refine TO.decB (t := 89) (b' := true) rfl g98 ?_
                          refine TO.move rfl rfl rfl rfl ?_
                          refine TO.move rfl rfl rfl rfl ?_
                          refine TO.callX TWLCutPairs.c48 rfl rfl rfl rfl (fun wc hwc => w_cut_Or (a0 := r14) (b1 := r25) wc (hwc.rs (f := boolC) (s := 1) (xs := r14) (j := j19) (fun _ => rfl) (List.Mem.tail _ (List.Mem.tail _ (List.Mem.tail _ (List.Mem.tail _ (List.Mem.head _))))) hn20 hc21 hz23) (hwc.rs (f := boolC) (s := 1) (xs := r25) (j := j30) (fun _ => rfl) (List.Mem.tail _ (List.Mem.head _)) hn31 hc32 hz34) e100) ?_
                          rintro _ _ ⟨ob101, n102, c103, j104, rfl, rfl, hn105, hc106, hj107, hz108⟩
                          refine TO.move rfl rfl rfl rfl ?_
                          refine TO.move rfl rfl rfl rfl ?_
                          refine TO.callX TWLCutPairs.c48 rfl rfl rfl rfl (fun wc hwc => w_cut_Or (a0 := r25) (b1 := r14) wc (hwc.rs (f := boolC) (s := 1) (xs := r25) (j := j30) (fun _ => rfl) (List.Mem.tail _ (List.Mem.tail _ (List.Mem.head _))) hn31 hc32 hz34) (hwc.rs (f := boolC) (s := 1) (xs := r14) (j := j19) (fun _ => rfl) (List.Mem.tail _ (List.Mem.tail _ (List.Mem.tail _ (List.Mem.tail _ (List.Mem.tail _ (List.Mem.head _)))))) hn20 hc21 hz23) e111) ?_
                          rintro _ _ ⟨ob112, n113, c114, j115, rfl, rfl, hn116, hc117, hj118, hz119⟩
                          refine TO.callX TWLCutPairs.c49 rfl rfl rfl rfl (fun wc hwc => w_acequialow_Bools (a0 := r99) (b1 := r110) wc (hwc.rs (f := boolC) (s := 1) (xs := r99) (j := j104) (fun _ => rfl) (List.Mem.tail _ (List.Mem.head _)) hn105 hc106 hz108) (hwc.rs (f := boolC) (s := 1) (xs := r110) (j := j115) (fun _ => rfl) (List.Mem.head _) hn116 hc117 hz119) e122) ?_
                          rintro _ _ ⟨rfl, rfl⟩
                          refine TO.pickT rfl rfl rfl rfl rfl ?_
                          refine TO.move rfl rfl rfl rfl ?_
                          refine TO.decB (t := 98) (b' := false) rfl (Bool.eq_false_iff.2 g123) ?_
                          refine TO.shut rfl rfl rfl rfl ?_
                          refine TO.pickF rfl rfl rfl rfl rfl ?_
                          refine TO.assign rfl rfl rfl rfl ?_
                          refine TO.done ?_
                          refine X.seq_normal ?_
                          refine T.trim (AllF.cons (t := 6) rfl AllF.nil) ?_
                          refine T.ret ?_
                          obtain rfl := ret1 H
                          exact X.ret1 rfl rfl rfl rfl (Res.tmp rfl) Pick.nil ⟨rfl, rfl⟩
                      ·
                        refine T.regionL (ll := [0, 1, 2, 3, 4, 5, 6, 7, 8, 9, 10, 11, 12, 13, 14, 15, 16, 17]) rfl ?_
                        refine TO.move rfl rfl rfl rfl ?_
                        refine TO.move rfl rfl rfl rfl ?_
                        refine TO.callX TWLCutPairs.c47 rfl rfl rfl rfl (fun wc hwc => w_cut_And (a0 := r14) (b1 := r14) wc (hwc.rs (f := boolC) (s := 1) (xs := r14) (j := j19) (fun _ => rfl) (List.Mem.tail _ (List.Mem.tail _ (List.Mem.tail _ (List.Mem.head _)))) hn20 hc21 hz23) (hwc.rs (f := boolC) (s := 1) (xs := r14) (j := j19) (fun _ => rfl) (List.Mem.tail _ (List.Mem.tail _ (List.Mem.tail _ (List.Mem.head _)))) hn20 hc21 hz23) e86) ?_
                        rintro _ _ ⟨ob87, n88, c89, j90, rfl, rfl, hn91, hc92, hj93, hz94⟩
                        refine TO.move rfl rfl rfl rfl ?_
                        refine TO.callX TWLCutPairs.c49 rfl rfl rfl rfl (fun wc hwc => w_acequialow_Bools (a0 := r85) (b1 := r14) wc (hwc.rs (f := boolC) (s := 1) (xs := r85) (j := j90) (fun _ => rfl) (List.Mem.head _) hn91 hc92 hz94) (hwc.rs (f := boolC) (s := 1) (xs := r14) (j := j19) (fun _ => rfl) (List.Mem.tail _ (List.Mem.tail _ (List.Mem.tail _ (List.Mem.tail _ (List.Mem.head _))))) hn20 hc21 hz23) e97) ?_
                        rintro _ _ ⟨rfl, rfl⟩
                        refine TO.move rfl rfl rfl rfl ?_
                        refine TO.decB (t := 89) (b' := false) rfl (Bool.eq_false_iff.2 g98) ?_
                        refine TO.shut rfl rfl rfl rfl ?_
                        refine TO.shut rfl rfl rfl rfl ?_
                        refine TO.shut rfl rfl rfl rfl ?_
                        refine TO.shut rfl rfl rfl rfl ?_
                        refine TO.shut rfl rfl rfl rfl ?_
                        refine TO.shut rfl rfl rfl rfl ?_
                        refine TO.shut rfl rfl rfl rfl ?_
                        refine TO.pickF rfl rfl rfl rfl rfl ?_
                        refine TO.move rfl rfl rfl rfl ?_
                        refine TO.shut rfl rfl rfl rfl ?_
                        refine TO.pickF rfl rfl rfl rfl rfl ?_
                        refine TO.assign rfl rfl rfl rfl ?_
                        refine TO.done ?_
                        refine X.seq_normal ?_
                        refine T.trim (AllF.cons (t := 6) rfl AllF.nil) ?_
                        refine T.ret ?_
                        obtain rfl := ret1 H
                        exact X.ret1 rfl rfl rfl rfl (Res.tmp rfl) Pick.nil ⟨rfl, rfl⟩
end Go.Proofs.Ytcdbemdogkmahaa.Ax
