/- What a call does is what its model says: acequialaw02.CsrPairs. (Printed by sx.py.) -/
import Derived.Test.YtcdbemdogkmahaaAcqMLCsrPairs
import Derived.Test.YtcdbemdogkmahaaAcqRs5
import Derived.Test.YtcdbemdogkmahaaAcqWLCsrPairs
namespace Go.Proofs.Ytcdbemdogkmahaa.Ax
open Go Go.Acq Go.RowKit Go.Proofs
set_option linter.unusedVariables false
set_option linter.unusedSimpArgs false
set_option maxHeartbeats 8000000
set_option maxRecDepth 20000
theorem TWLCsrPairsa.a24 : aggT Try.prog 24 4 = true := by kernel_rfl
theorem TWLCsrPairsa.a28 : aggT Try.prog 28 3 = true := by kernel_rfl
theorem TWLCsrPairsa.a33 : aggT Try.prog 33 9 = true := by kernel_rfl
theorem TWLCsrPairsa.c17 : callable Try.prog 17 = true := by kernel_rfl
theorem TWLCsrPairsa.c19 : callable Try.prog 19 = true := by kernel_rfl
theorem TWLCsrPairsa.c22 : callable Try.prog 22 = true := by kernel_rfl
theorem TWLCsrPairsa.c23 : callable Try.prog 23 = true := by kernel_rfl
theorem TWLCsrPairsa.c26 : callable Try.prog 26 = true := by kernel_rfl
theorem TWLCsrPairsa.f24_3 : fieldT Try.prog 24 3 = some 3 := by kernel_rfl
theorem TWLCsrPairsa.f28_0 : fieldT Try.prog 28 0 = some 0 := by kernel_rfl
theorem TWLCsrPairsa.f28_1 : fieldT Try.prog 28 1 = some 1 := by kernel_rfl
theorem TWLCsrPairsa.f28_2 : fieldT Try.prog 28 2 = some 2 := by kernel_rfl
theorem TWLCsrPairsa.f33_4 : fieldT Try.prog 33 4 = some 4 := by kernel_rfl
theorem TWLCsrPairsa.f33_5 : fieldT Try.prog 33 5 = some 5 := by kernel_rfl
theorem TWLCsrPairsa.f33_6 : fieldT Try.prog 33 6 = some 6 := by kernel_rfl
theorem TWLCsrPairsa.f33_7 : fieldT Try.prog 33 7 = some 7 := by kernel_rfl
theorem TWLCsrPairsa.f33_8 : fieldT Try.prog 33 8 = some 8 := by kernel_rfl
theorem TWLCsrPairsa.l22 : sliceT Try.prog 22 = some 28 := by kernel_rfl
theorem TWLCsrPairsa.l25 : sliceT Try.prog 25 = some 2 := by kernel_rfl
theorem TWLCsrPairsa.l30 : sliceT Try.prog 30 = some 3 := by kernel_rfl
theorem TWLCsrPairsa.l31 : sliceT Try.prog 31 = some 4 := by kernel_rfl
theorem TWLCsrPairsa.n2 : sizeT Try.prog 2 = some 1 := by kernel_rfl
theorem TWLCsrPairsa.n24 : sizeT Try.prog 24 = some 4 := by kernel_rfl
theorem TWLCsrPairsa.n28 : sizeT Try.prog 28 = some 3 := by kernel_rfl
theorem TWLCsrPairsa.n3 : sizeT Try.prog 3 = some 1 := by kernel_rfl
theorem TWLCsrPairsa.n33 : sizeT Try.prog 33 = some 9 := by kernel_rfl
theorem TWLCsrPairsa.n4 : sizeT Try.prog 4 = some 1 := by kernel_rfl
theorem TWLCsrPairsa.s2 : scalT Try.prog 2 = true := by kernel_rfl
theorem TWLCsrPairsa.s22 : scalT Try.prog 22 = true := by kernel_rfl
theorem TWLCsrPairsa.s25 : scalT Try.prog 25 = true := by kernel_rfl
theorem TWLCsrPairsa.s3 : scalT Try.prog 3 = true := by kernel_rfl
theorem TWLCsrPairsa.s30 : scalT Try.prog 30 = true := by kernel_rfl
theorem TWLCsrPairsa.s31 : scalT Try.prog 31 = true := by kernel_rfl
theorem TWLCsrPairsa.s4 : scalT Try.prog 4 = true := by kernel_rfl
theorem TWLCsrPairsa.u4 : Try.prog.underlying 4 = some .bool := by kernel_rfl
theorem TWLCsrPairsa.z28 : zeroT Try.prog 28 = some (.agg #[.int .i64 0, .int .i64 0, .int .i64 0]) := by kernel_rfl
theorem TWLCsrPairsa.z33 : zeroT Try.prog 33 = some (.agg #[.int .i64 0, .int .i64 0, .int .i64 0, .slice none 0 0, .slice none 0 0, .slice none 0 0, .slice none 0 0, .slice none 0 0, .slice none 0 0]) := by kernel_rfl

/-- acequia/acequialaw02.CsrPairs -/
theorem w_acequialaw02_CsrPairs {n0 : Net} {n0_Arcs_b : Option Addr} {n0_Arcs_n : Nat} {n0_Arcs_c : Nat} (w : World) (h_n0_Arcs : RS w [] arcC 3 n0_Arcs_b n0_Arcs_n n0_Arcs_c n0.Arcs) {r0 : Bool} (H : m_acequialaw02_CsrPairs n0 = some r0) : Fnc Try.prog 5 #[.agg #[.int .i64 n0.N, .int .i64 n0.S, .int .i64 n0.T, .slice n0_Arcs_b n0_Arcs_n n0_Arcs_c]] w [] (fun v N => v = .bool r0 ∧ N = []) := by
  unfold m_acequialaw02_CsrPairs at H
  refine Fnc.enter (vs := [.agg #[.int .i64 n0.N, .int .i64 n0.S, .int .i64 n0.T, .slice n0_Arcs_b n0_Arcs_n n0_Arcs_c]]) Try.func5 rfl rfl (Inv.refl w) ?_
  refine T.seq ?_
  refine T.regionL (ll := [0, 1]) rfl ?_
  refine TO.boxA rfl rfl rfl rfl ?_; intro b1
  refine TO.assign rfl rfl rfl rfl ?_
  refine TO.done ?_
  refine X.seq_normal ?_
  refine T.seq ?_
  obtain ⟨r3, e4, H⟩ := bd_some H
  refine T.regionL (ll := [0, 1, 2]) rfl ?_
  refine TO.loadA rfl rfl rfl rfl TWLCsrPairsa.a24 (List.Mem.head _) rfl ?_
  refine TO.callX TWLCsrPairsa.c17 rfl rfl rfl rfl (fun wc hwc => w_acequialow_Some (n0 := n0) (verts1 := 40) (arcs2 := 80) wc (h_n0_Arcs.mono hwc) e4) ?_
  rintro _ _ ⟨ob5, n6, c7, j8, rfl, rfl, hn9, hc10, hj11, hz12⟩
  refine TO.storeA rfl rfl rfl rfl (Take.tail (Take.head _ _)) TWLCsrPairsa.n24 rfl rfl rfl ?_
  refine TO.done ?_
  refine X.seq_normal ?_
  refine T.seq ?_
  obtain ⟨⟨r14, r15⟩, e16, H⟩ := bd_some H
  refine T.regionL (ll := [0, 1, 2, 3, 4, 5, 6, 7]) rfl ?_
  refine TO.loadA rfl rfl rfl rfl TWLCsrPairsa.a24 (List.Mem.head _) rfl ?_
  refine TO.callX TWLCsrPairsa.c19 rfl rfl rfl rfl (fun wc hwc => w_csr_Make (n0 := r3) wc (hwc.rs (f := arcC) (s := 3) (xs := r3.Arcs) (j := j8) (fun _ => rfl) (List.Mem.tail _ (List.Mem.head _)) hn9 hc10 hz12) e16) ?_
  rintro _ _ ⟨ob17, n18, c19, j20, ob21, n22, c23, j24, ob25, n26, c27, j28, ob29, n30, c31, j32, ob33, n34, c35, j36, ob37, n38, c39, j40, rfl, rfl, hn41, hc42, hj43, hz44, hn45, hc46, hj47, hz48, hn49, hc50, hj51, hz52, hn53, hc54, hj55, hz56, hn57, hc58, hj59, hz60, hn61, hc62, hj63, hz64⟩
  refine TO.move rfl rfl rfl rfl ?_
  refine TO.extract rfl rfl rfl rfl rfl ?_
  refine TO.extract rfl rfl rfl rfl rfl ?_
  refine TO.allocA rfl rfl rfl TWLCsrPairsa.z33 ?_; intro b71
  refine TO.storeA rfl rfl rfl rfl (Take.head _ _) TWLCsrPairsa.n33 rfl rfl rfl ?_
  refine TO.assign rfl rfl rfl rfl ?_
  refine TO.done ?_
  refine X.seq_normal ?_
  refine T.trim (AllF.cons (t := 1) rfl (AllF.cons (t := 3) rfl (AllF.cons (t := 4) rfl AllF.nil))) ?_
  refine T.seq ?_
  refine T.seq ?_
  rcases ite_some H with ⟨g73, H⟩ | ⟨g73, H⟩
  ·
    apply T.drawQT [(19, _), (20, _), (21, _), (22, _), (23, _), (24, _), (25, _), (26, _), (27, _), (28, _), (29, _), (30, _), (31, _), (32, _), (33, _), (34, _), (35, _), (36, _), (37, _), (38, _), (39, _), (40, _), (41, _), (42, _), (43, _), (44, _), (45, _), (46, _), (47, _), (48, _), (49, _), (50, _)]
    · exact mixed
    · kernel_rfl
    · kernel_rfl
    · exact rfl
    · exact rfl
    · refine ⟨?_, ?_, ?_, ?_, ?_, ?_, ?_, ?_, ?_, ?_, ?_, ?_, ?_, ?_, ?_, ?_, ?_, ?_, ?_, ?_, ?_, ?_, ?_, ?_, ?_, ?_, ?_, ?_, ?_, ?_, ?_, ?_, trivial⟩
      · intro Es
        refine TO.move rfl rfl rfl rfl ?_
        exact TO.done (X.ob rfl (Pick.refl _))
      · intro Es
        refine TO.bin rfl rfl rfl rfl rfl rfl ?_
        exact TO.done (X.ob rfl (Pick.refl _))
      · intro Es
        refine TO.move rfl rfl rfl rfl ?_
        refine TO.decB (t := 21) (b' := true) rfl (decide_eq_true g73) ?_
        exact TO.done (X.ob2 rfl (Pick.refl _))
      · intro Es
        refine TO.shut rfl rfl rfl rfl ?_
        exact TO.done (X.ob rfl (Pick.refl _))
      · intro Es
        refine TO.shut rfl rfl rfl rfl ?_
        exact TO.done (X.ob rfl (Pick.refl _))
      · intro Es
        refine TO.shut rfl rfl rfl rfl ?_
        exact TO.done (X.ob rfl (Pick.refl _))
      · intro Es
        refine TO.shut rfl rfl rfl rfl ?_
        exact TO.done (X.ob rfl (Pick.refl _))
      · intro Es
        refine TO.shut rfl rfl rfl rfl ?_
        exact TO.done (X.ob rfl (Pick.refl _))
      · intro Es
        refine TO.shut rfl rfl rfl rfl ?_
        exact TO.done (X.ob rfl (Pick.refl _))
      · intro Es
        refine TO.pickT rfl rfl rfl rfl rfl ?_
        exact TO.done (X.ob rfl (Pick.refl _))
      · intro Es
        refine TO.move rfl rfl rfl rfl ?_
        exact TO.done (X.ob rfl (Pick.refl _))
      · intro Es
        refine TO.shut rfl rfl rfl rfl ?_
        exact TO.done (X.ob rfl (Pick.refl _))
      · intro Es
        refine TO.shut rfl rfl rfl rfl ?_
        exact TO.done (X.ob rfl (Pick.refl _))
      · intro Es
        refine TO.shut rfl rfl rfl rfl ?_
        exact TO.done (X.ob rfl (Pick.refl _))
      · intro Es
        refine TO.shut rfl rfl rfl rfl ?_
        exact TO.done (X.ob rfl (Pick.refl _))
      · intro Es
        refine TO.shut rfl rfl rfl rfl ?_
        exact TO.done (X.ob rfl (Pick.refl _))
      · intro Es
        refine TO.shut rfl rfl rfl rfl ?_
        exact TO.done (X.ob rfl (Pick.refl _))
      · intro Es
        refine TO.pickT rfl rfl rfl rfl rfl ?_
        exact TO.done (X.ob rfl (Pick.refl _))
      · intro Es
        refine TO.move rfl rfl rfl rfl ?_
        exact TO.done (X.ob rfl (Pick.refl _))
      · intro Es
        refine TO.shut rfl rfl rfl rfl ?_
        exact TO.done (X.ob rfl (Pick.refl _))
      · intro Es
        refine TO.shut rfl rfl rfl rfl ?_
        exact TO.done (X.ob rfl (Pick.refl _))
      · intro Es
        refine TO.shut rfl rfl rfl rfl ?_
        exact TO.done (X.ob rfl (Pick.refl _))
      · intro Es
        refine TO.shut rfl rfl rfl rfl ?_
        exact TO.done (X.ob rfl (Pick.refl _))
      · intro Es
        refine TO.shut rfl rfl rfl rfl ?_
        exact TO.done (X.ob rfl (Pick.refl _))
      · intro Es
        refine TO.shut rfl rfl rfl rfl ?_
        exact TO.done (X.ob rfl (Pick.refl _))
      · intro Es
        refine TO.pickT rfl rfl rfl rfl rfl ?_
        exact TO.done (X.ob rfl (Pick.refl _))
      · intro Es
        refine TO.move rfl rfl rfl rfl ?_
        exact TO.done (X.ob rfl (Pick.refl _))
      · intro Es
        refine TO.shut rfl rfl rfl rfl ?_
        exact TO.done (X.ob rfl (Pick.refl _))
      · intro Es
        refine TO.shut rfl rfl rfl rfl ?_
        exact TO.done (X.ob rfl (Pick.refl _))
      · intro Es
        refine TO.shut rfl rfl rfl rfl ?_
        exact TO.done (X.ob rfl (Pick.refl _))
      · intro Es
        refine TO.shut rfl rfl rfl rfl ?_
        exact TO.done (X.ob rfl (Pick.refl _))
      · intro Es
        refine TO.shut rfl rfl rfl rfl ?_
        exact TO.done (X.ob rfl (Pick.refl _))
    refine TO.shut rfl rfl rfl rfl ?_
    refine TO.pickT rfl rfl rfl rfl rfl ?_
    refine TO.done ?_
    refine X.seq_normal ?_
    refine T.trim (AllF.cons (t := 1) rfl (AllF.cons (t := 3) rfl (AllF.cons (t := 52) rfl AllF.nil))) ?_
    refine T.condT rfl rfl ?_
    refine T.seq ?_
    refine T.regionL (ll := [0]) rfl ?_
    refine TO.assign rfl rfl rfl rfl ?_
    refine TO.done ?_
    refine X.seq_normal ?_
    refine T.ret ?_
    refine X.then_ret ?_
    obtain rfl := ret1 H
    exact X.ret1 rfl rfl rfl rfl (Res.tmp rfl) Pick.nil ⟨rfl, rfl⟩
  ·
    obtain ⟨r74, e75, H⟩ := bd_some H
    rcases ite_some H with ⟨g76, H⟩ | ⟨g76, H⟩
    ·
      apply T.drawQT [(19, _), (20, _), (21, _), (22, _), (23, _), (24, _), (25, _), (26, _), (27, _), (28, _), (29, _), (30, _), (31, _), (32, _), (33, _), (34, _), (35, _), (36, _), (37, _), (38, _), (39, _), (40, _), (41, _), (42, _), (43, _), (44, _), (45, _), (46, _), (47, _), (48, _), (49, _), (50, _)]
      · exact mixed
      · kernel_rfl
      · kernel_rfl
      · exact rfl
      · exact rfl
      · refine ⟨?_, ?_, ?_, ?_, ?_, ?_, ?_, ?_, ?_, ?_, ?_, ?_, ?_, ?_, ?_, ?_, ?_, ?_, ?_, ?_, ?_, ?_, ?_, ?_, ?_, ?_, ?_, ?_, ?_, ?_, ?_, ?_, trivial⟩
        · intro Es
          refine TO.move rfl rfl rfl rfl ?_
          exact TO.done (X.ob rfl (Pick.refl _))
        · intro Es
          refine TO.bin rfl rfl rfl rfl rfl rfl ?_
          exact TO.done (X.ob rfl (Pick.refl _))
        · intro Es
          refine TO.move rfl rfl rfl rfl ?_
          refine TO.decB (t := 21) (b' := false) rfl (decide_eq_false g73) ?_
          exact TO.done (X.ob2 rfl (Pick.refl _))
        · intro Es
          refine TO.fieldAddr0 rfl rfl rfl rfl TWLCsrPairsa.f33_5 ?_
          exact TO.done (X.ob rfl (Pick.refl _))
        · intro Es
          refine TO.load1 rfl rfl rfl rfl TWLCsrPairsa.s30 (List.Mem.head _) rfl ?_
          exact TO.done (X.ob rfl (Pick.refl _))
        · intro Es
          refine TO.lenX (xs := r14.Rev) hn49 rfl rfl rfl rfl rfl TWLCsrPairsa.l30 ?_
          exact TO.done (X.ob rfl (Pick.refl _))
        · intro Es
          refine TO.loadA rfl rfl rfl rfl TWLCsrPairsa.a33 (List.Mem.head _) rfl ?_
          exact TO.done (X.ob rfl (Pick.refl _))
        · intro Es
          refine TO.callX TWLCsrPairsa.c22 rfl rfl rfl rfl (fun wc hwc => w_csr_Len (c0 := r14) wc (hwc.rs (f := (intC .i64)) (s := 1) (xs := r14.First) (j := j20) (fun _ => rfl) (List.Mem.tail _ (List.Mem.head _)) hn41 hc42 hz44) (hwc.rs (f := (intC .i64)) (s := 1) (xs := r14.Head) (j := j24) (fun _ => rfl) (List.Mem.tail _ (List.Mem.tail _ (List.Mem.head _))) hn45 hc46 hz48) (hwc.rs (f := (intC .i64)) (s := 1) (xs := r14.Rev) (j := j28) (fun _ => rfl) (List.Mem.tail _ (List.Mem.tail _ (List.Mem.tail _ (List.Mem.head _)))) hn49 hc50 hz52) (hwc.rs (f := (intC .i64)) (s := 1) (xs := r14.Cap) (j := j32) (fun _ => rfl) (List.Mem.tail _ (List.Mem.tail _ (List.Mem.tail _ (List.Mem.tail _ (List.Mem.head _))))) hn53 hc54 hz56) (hwc.rs (f := (intC .i64)) (s := 1) (xs := r14.Arc) (j := j36) (fun _ => rfl) (List.Mem.tail _ (List.Mem.tail _ (List.Mem.tail _ (List.Mem.tail _ (List.Mem.tail _ (List.Mem.head _)))))) hn57 hc58 hz60) (hwc.rs (f := boolC) (s := 1) (xs := r14.Back) (j := j40) (fun _ => rfl) (List.Mem.tail _ (List.Mem.tail _ (List.Mem.tail _ (List.Mem.tail _ (List.Mem.tail _ (List.Mem.tail _ (List.Mem.head _))))))) hn61 hc62 hz64) e75) ?_
          rintro _ _ ⟨rfl, rfl⟩
          exact TO.done (X.ob rfl (Pick.refl _))
        · intro Es
          refine TO.bin rfl rfl rfl rfl rfl rfl ?_
          exact TO.done (X.ob rfl (Pick.refl _))
        · intro Es
          refine TO.pickF rfl rfl rfl rfl rfl ?_
          exact TO.done (X.ob rfl (Pick.refl _))
        · intro Es
          refine TO.move rfl rfl rfl rfl ?_
          refine TO.decB (t := 29) (b' := true) rfl (decide_eq_true g76) ?_
          exact TO.done (X.ob2 rfl (Pick.refl _))
        · intro Es
          refine TO.shut rfl rfl rfl rfl ?_
          exact TO.done (X.ob rfl (Pick.refl _))
        · intro Es
          refine TO.shut rfl rfl rfl rfl ?_
          exact TO.done (X.ob rfl (Pick.refl _))
        · intro Es
          refine TO.shut rfl rfl rfl rfl ?_
          exact TO.done (X.ob rfl (Pick.refl _))
        · intro Es
          refine TO.shut rfl rfl rfl rfl ?_
          exact TO.done (X.ob rfl (Pick.refl _))
        · intro Es
          refine TO.shut rfl rfl rfl rfl ?_
          exact TO.done (X.ob rfl (Pick.refl _))
        · intro Es
          refine TO.shut rfl rfl rfl rfl ?_
          exact TO.done (X.ob rfl (Pick.refl _))
        · intro Es
          refine TO.pickT rfl rfl rfl rfl rfl ?_
          exact TO.done (X.ob rfl (Pick.refl _))
        · intro Es
          refine TO.move rfl rfl rfl rfl ?_
          exact TO.done (X.ob rfl (Pick.refl _))
        · intro Es
          refine TO.shut rfl rfl rfl rfl ?_
          exact TO.done (X.ob rfl (Pick.refl _))
        · intro Es
          refine TO.shut rfl rfl rfl rfl ?_
          exact TO.done (X.ob rfl (Pick.refl _))
        · intro Es
          refine TO.shut rfl rfl rfl rfl ?_
          exact TO.done (X.ob rfl (Pick.refl _))
        · intro Es
          refine TO.shut rfl rfl rfl rfl ?_
          exact TO.done (X.ob rfl (Pick.refl _))
        · intro Es
          refine TO.shut rfl rfl rfl rfl ?_
          exact TO.done (X.ob rfl (Pick.refl _))
        · intro Es
          refine TO.shut rfl rfl rfl rfl ?_
          exact TO.done (X.ob rfl (Pick.refl _))
        · intro Es
          refine TO.pickT rfl rfl rfl rfl rfl ?_
          exact TO.done (X.ob rfl (Pick.refl _))
        · intro Es
          refine TO.move rfl rfl rfl rfl ?_
          exact TO.done (X.ob rfl (Pick.refl _))
        · intro Es
          refine TO.shut rfl rfl rfl rfl ?_
          exact TO.done (X.ob rfl (Pick.refl _))
        · intro Es
          refine TO.shut rfl rfl rfl rfl ?_
          exact TO.done (X.ob rfl (Pick.refl _))
        · intro Es
          refine TO.shut rfl rfl rfl rfl ?_
          exact TO.done (X.ob rfl (Pick.refl _))
        · intro Es
          refine TO.shut rfl rfl rfl rfl ?_
          exact TO.done (X.ob rfl (Pick.refl _))
        · intro Es
          refine TO.shut rfl rfl rfl rfl ?_
          exact TO.done (X.ob rfl (Pick.refl _))
      refine TO.shut rfl rfl rfl rfl ?_
      refine TO.pickT rfl rfl rfl rfl rfl ?_
      refine TO.done ?_
      refine X.seq_normal ?_
      refine T.trim (AllF.cons (t := 1) rfl (AllF.cons (t := 3) rfl (AllF.cons (t := 52) rfl AllF.nil))) ?_
      refine T.condT rfl rfl ?_
      refine T.seq ?_
      refine T.regionL (ll := [0]) rfl ?_
      refine TO.assign rfl rfl rfl rfl ?_
      refine TO.done ?_
      refine X.seq_normal ?_
      refine T.ret ?_
      refine X.then_ret ?_
      obtain rfl := ret1 H
      exact X.ret1 rfl rfl rfl rfl (Res.tmp rfl) Pick.nil ⟨rfl, rfl⟩
    ·
      obtain ⟨r77, e78, H⟩ := bd_some H
      rcases ite_some H with ⟨g79, H⟩ | ⟨g79, H⟩
      ·
        apply T.drawQT [(19, _), (20, _), (21, _), (22, _), (23, _), (24, _), (25, _), (26, _), (27, _), (28, _), (29, _), (30, _), (31, _), (32, _), (33, _), (34, _), (35, _), (36, _), (37, _), (38, _), (39, _), (40, _), (41, _), (42, _), (43, _), (44, _), (45, _), (46, _), (47, _), (48, _), (49, _), (50, _)]
        · exact mixed
        · kernel_rfl
        · kernel_rfl
        · exact rfl
        · exact rfl
        · refine ⟨?_, ?_, ?_, ?_, ?_, ?_, ?_, ?_, ?_, ?_, ?_, ?_, ?_, ?_, ?_, ?_, ?_, ?_, ?_, ?_, ?_, ?_, ?_, ?_, ?_, ?_, ?_, ?_, ?_, ?_, ?_, ?_, trivial⟩
          · intro Es
            refine TO.move rfl rfl rfl rfl ?_
            exact TO.done (X.ob rfl (Pick.refl _))
          · intro Es
            refine TO.bin rfl rfl rfl rfl rfl rfl ?_
            exact TO.done (X.ob rfl (Pick.refl _))
          · intro Es
            refine TO.move rfl rfl rfl rfl ?_
            refine TO.decB (t := 21) (b' := false) rfl (decide_eq_false g73) ?_
            exact TO.done (X.ob2 rfl (Pick.refl _))
          · intro Es
            refine TO.fieldAddr0 rfl rfl rfl rfl TWLCsrPairsa.f33_5 ?_
            exact TO.done (X.ob rfl (Pick.refl _))
          · intro Es
            refine TO.load1 rfl rfl rfl rfl TWLCsrPairsa.s30 (List.Mem.head _) rfl ?_
            exact TO.done (X.ob rfl (Pick.refl _))
          · intro Es
            refine TO.lenX (xs := r14.Rev) hn49 rfl rfl rfl rfl rfl TWLCsrPairsa.l30 ?_
            exact TO.done (X.ob rfl (Pick.refl _))
          · intro Es
            refine TO.loadA rfl rfl rfl rfl TWLCsrPairsa.a33 (List.Mem.head _) rfl ?_
            exact TO.done (X.ob rfl (Pick.refl _))
          · intro Es
            refine TO.callX TWLCsrPairsa.c22 rfl rfl rfl rfl (fun wc hwc => w_csr_Len (c0 := r14) wc (hwc.rs (f := (intC .i64)) (s := 1) (xs := r14.First) (j := j20) (fun _ => rfl) (List.Mem.tail _ (List.Mem.head _)) hn41 hc42 hz44) (hwc.rs (f := (intC .i64)) (s := 1) (xs := r14.Head) (j := j24) (fun _ => rfl) (List.Mem.tail _ (List.Mem.tail _ (List.Mem.head _))) hn45 hc46 hz48) (hwc.rs (f := (intC .i64)) (s := 1) (xs := r14.Rev) (j := j28) (fun _ => rfl) (List.Mem.tail _ (List.Mem.tail _ (List.Mem.tail _ (List.Mem.head _)))) hn49 hc50 hz52) (hwc.rs (f := (intC .i64)) (s := 1) (xs := r14.Cap) (j := j32) (fun _ => rfl) (List.Mem.tail _ (List.Mem.tail _ (List.Mem.tail _ (List.Mem.tail _ (List.Mem.head _))))) hn53 hc54 hz56) (hwc.rs (f := (intC .i64)) (s := 1) (xs := r14.Arc) (j := j36) (fun _ => rfl) (List.Mem.tail _ (List.Mem.tail _ (List.Mem.tail _ (List.Mem.tail _ (List.Mem.tail _ (List.Mem.head _)))))) hn57 hc58 hz60) (hwc.rs (f := boolC) (s := 1) (xs := r14.Back) (j := j40) (fun _ => rfl) (List.Mem.tail _ (List.Mem.tail _ (List.Mem.tail _ (List.Mem.tail _ (List.Mem.tail _ (List.Mem.tail _ (List.Mem.head _))))))) hn61 hc62 hz64) e75) ?_
            rintro _ _ ⟨rfl, rfl⟩
            exact TO.done (X.ob rfl (Pick.refl _))
          · intro Es
            refine TO.bin rfl rfl rfl rfl rfl rfl ?_
            exact TO.done (X.ob rfl (Pick.refl _))
          · intro Es
            refine TO.pickF rfl rfl rfl rfl rfl ?_
            exact TO.done (X.ob rfl (Pick.refl _))
          · intro Es
            refine TO.move rfl rfl rfl rfl ?_
            refine TO.decB (t := 29) (b' := false) rfl (decide_eq_false g76) ?_
            exact TO.done (X.ob2 rfl (Pick.refl _))
          · intro Es
            refine TO.fieldAddr0 rfl rfl rfl rfl TWLCsrPairsa.f33_6 ?_
            exact TO.done (X.ob rfl (Pick.refl _))
          · intro Es
            refine TO.load1 rfl rfl rfl rfl TWLCsrPairsa.s25 (List.Mem.head _) rfl ?_
            exact TO.done (X.ob rfl (Pick.refl _))
          · intro Es
            refine TO.lenX (xs := r14.Cap) hn53 rfl rfl rfl rfl rfl TWLCsrPairsa.l25 ?_
            exact TO.done (X.ob rfl (Pick.refl _))
          · intro Es
            refine TO.loadA rfl rfl rfl rfl TWLCsrPairsa.a33 (List.Mem.head _) rfl ?_
            exact TO.done (X.ob rfl (Pick.refl _))
          · intro Es
            refine TO.callX TWLCsrPairsa.c22 rfl rfl rfl rfl (fun wc hwc => w_csr_Len (c0 := r14) wc (hwc.rs (f := (intC .i64)) (s := 1) (xs := r14.First) (j := j20) (fun _ => rfl) (List.Mem.tail _ (List.Mem.head _)) hn41 hc42 hz44) (hwc.rs (f := (intC .i64)) (s := 1) (xs := r14.Head) (j := j24) (fun _ => rfl) (List.Mem.tail _ (List.Mem.tail _ (List.Mem.head _))) hn45 hc46 hz48) (hwc.rs (f := (intC .i64)) (s := 1) (xs := r14.Rev) (j := j28) (fun _ => rfl) (List.Mem.tail _ (List.Mem.tail _ (List.Mem.tail _ (List.Mem.head _)))) hn49 hc50 hz52) (hwc.rs (f := (intC .i64)) (s := 1) (xs := r14.Cap) (j := j32) (fun _ => rfl) (List.Mem.tail _ (List.Mem.tail _ (List.Mem.tail _ (List.Mem.tail _ (List.Mem.head _))))) hn53 hc54 hz56) (hwc.rs (f := (intC .i64)) (s := 1) (xs := r14.Arc) (j := j36) (fun _ => rfl) (List.Mem.tail _ (List.Mem.tail _ (List.Mem.tail _ (List.Mem.tail _ (List.Mem.tail _ (List.Mem.head _)))))) hn57 hc58 hz60) (hwc.rs (f := boolC) (s := 1) (xs := r14.Back) (j := j40) (fun _ => rfl) (List.Mem.tail _ (List.Mem.tail _ (List.Mem.tail _ (List.Mem.tail _ (List.Mem.tail _ (List.Mem.tail _ (List.Mem.head _))))))) hn61 hc62 hz64) e78) ?_
            rintro _ _ ⟨rfl, rfl⟩
            exact TO.done (X.ob rfl (Pick.refl _))
          · intro Es
            refine TO.bin rfl rfl rfl rfl rfl rfl ?_
            exact TO.done (X.ob rfl (Pick.refl _))
          · intro Es
            refine TO.pickF rfl rfl rfl rfl rfl ?_
            exact TO.done (X.ob rfl (Pick.refl _))
          · intro Es
            refine TO.move rfl rfl rfl rfl ?_
            refine TO.decB (t := 37) (b' := true) rfl (decide_eq_true g79) ?_
            exact TO.done (X.ob2 rfl (Pick.refl _))
          · intro Es
            refine TO.shut rfl rfl rfl rfl ?_
            exact TO.done (X.ob rfl (Pick.refl _))
          · intro Es
            refine TO.shut rfl rfl rfl rfl ?_
            exact TO.done (X.ob rfl (Pick.refl _))
          · intro Es
            refine TO.shut rfl rfl rfl rfl ?_
            exact TO.done (X.ob rfl (Pick.refl _))
          · intro Es
            refine TO.shut rfl rfl rfl rfl ?_
            exact TO.done (X.ob rfl (Pick.refl _))
          · intro Es
            refine TO.shut rfl rfl rfl rfl ?_
            exact TO.done (X.ob rfl (Pick.refl _))
          · intro Es
            refine TO.shut rfl rfl rfl rfl ?_
            exact TO.done (X.ob rfl (Pick.refl _))
          · intro Es
            refine TO.pickT rfl rfl rfl rfl rfl ?_
            exact TO.done (X.ob rfl (Pick.refl _))
          · intro Es
            refine TO.move rfl rfl rfl rfl ?_
            exact TO.done (X.ob rfl (Pick.refl _))
          · intro Es
            refine TO.shut rfl rfl rfl rfl ?_
            exact TO.done (X.ob rfl (Pick.refl _))
          · intro Es
            refine TO.shut rfl rfl rfl rfl ?_
            exact TO.done (X.ob rfl (Pick.refl _))
          · intro Es
            refine TO.shut rfl rfl rfl rfl ?_
            exact TO.done (X.ob rfl (Pick.refl _))
          · intro Es
            refine TO.shut rfl rfl rfl rfl ?_
            exact TO.done (X.ob rfl (Pick.refl _))
          · intro Es
            refine TO.shut rfl rfl rfl rfl ?_
            exact TO.done (X.ob rfl (Pick.refl _))
        refine TO.shut rfl rfl rfl rfl ?_
        refine TO.pickT rfl rfl rfl rfl rfl ?_
        refine TO.done ?_
        refine X.seq_normal ?_
        refine T.trim (AllF.cons (t := 1) rfl (AllF.cons (t := 3) rfl (AllF.cons (t := 52) rfl AllF.nil))) ?_
        refine T.condT rfl rfl ?_
        refine T.seq ?_
        refine T.regionL (ll := [0]) rfl ?_
        refine TO.assign rfl rfl rfl rfl ?_
        refine TO.done ?_
        refine X.seq_normal ?_
        refine T.ret ?_
        refine X.then_ret ?_
        obtain rfl := ret1 H
        exact X.ret1 rfl rfl rfl rfl (Res.tmp rfl) Pick.nil ⟨rfl, rfl⟩
      ·
        obtain ⟨r80, e81, H⟩ := bd_some H
        rcases ite_some H with ⟨g82, H⟩ | ⟨g82, H⟩
        ·
          apply T.drawQT [(19, _), (20, _), (21, _), (22, _), (23, _), (24, _), (25, _), (26, _), (27, _), (28, _), (29, _), (30, _), (31, _), (32, _), (33, _), (34, _), (35, _), (36, _), (37, _), (38, _), (39, _), (40, _), (41, _), (42, _), (43, _), (44, _), (45, _), (46, _), (47, _), (48, _), (49, _), (50, _)]
          · exact mixed
          · kernel_rfl
          · kernel_rfl
          · exact rfl
          · exact rfl
          · refine ⟨?_, ?_, ?_, ?_, ?_, ?_, ?_, ?_, ?_, ?_, ?_, ?_, ?_, ?_, ?_, ?_, ?_, ?_, ?_, ?_, ?_, ?_, ?_, ?_, ?_, ?_, ?_, ?_, ?_, ?_, ?_, ?_, trivial⟩
            · intro Es
              refine TO.move rfl rfl rfl rfl ?_
              exact TO.done (X.ob rfl (Pick.refl _))
            · intro Es
              refine TO.bin rfl rfl rfl rfl rfl rfl ?_
              exact TO.done (X.ob rfl (Pick.refl _))
            · intro Es
              refine TO.move rfl rfl rfl rfl ?_
              refine TO.decB (t := 21) (b' := false) rfl (decide_eq_false g73) ?_
              exact TO.done (X.ob2 rfl (Pick.refl _))
            · intro Es
              refine TO.fieldAddr0 rfl rfl rfl rfl TWLCsrPairsa.f33_5 ?_
              exact TO.done (X.ob rfl (Pick.refl _))
            · intro Es
              refine TO.load1 rfl rfl rfl rfl TWLCsrPairsa.s30 (List.Mem.head _) rfl ?_
              exact TO.done (X.ob rfl (Pick.refl _))
            · intro Es
              refine TO.lenX (xs := r14.Rev) hn49 rfl rfl rfl rfl rfl TWLCsrPairsa.l30 ?_
              exact TO.done (X.ob rfl (Pick.refl _))
            · intro Es
              refine TO.loadA rfl rfl rfl rfl TWLCsrPairsa.a33 (List.Mem.head _) rfl ?_
              exact TO.done (X.ob rfl (Pick.refl _))
            · intro Es
              refine TO.callX TWLCsrPairsa.c22 rfl rfl rfl rfl (fun wc hwc => w_csr_Len (c0 := r14) wc (hwc.rs (f := (intC .i64)) (s := 1) (xs := r14.First) (j := j20) (fun _ => rfl) (List.Mem.tail _ (List.Mem.head _)) hn41 hc42 hz44) (hwc.rs (f := (intC .i64)) (s := 1) (xs := r14.Head) (j := j24) (fun _ => rfl) (List.Mem.tail _ (List.Mem.tail _ (List.Mem.head _))) hn45 hc46 hz48) (hwc.rs (f := (intC .i64)) (s := 1) (xs := r14.Rev) (j := j28) (fun _ => rfl) (List.Mem.tail _ (List.Mem.tail _ (List.Mem.tail _ (List.Mem.head _)))) hn49 hc50 hz52) (hwc.rs (f := (intC .i64)) (s := 1) (xs := r14.Cap) (j := j32) (fun _ => rfl) (List.Mem.tail _ (List.Mem.tail _ (List.Mem.tail _ (List.Mem.tail _ (List.Mem.head _))))) hn53 hc54 hz56) (hwc.rs (f := (intC .i64)) (s := 1) (xs := r14.Arc) (j := j36) (fun _ => rfl) (List.Mem.tail _ (List.Mem.tail _ (List.Mem.tail _ (List.Mem.tail _ (List.Mem.tail _ (List.Mem.head _)))))) hn57 hc58 hz60) (hwc.rs (f := boolC) (s := 1) (xs := r14.Back) (j := j40) (fun _ => rfl) (List.Mem.tail _ (List.Mem.tail _ (List.Mem.tail _ (List.Mem.tail _ (List.Mem.tail _ (List.Mem.tail _ (List.Mem.head _))))))) hn61 hc62 hz64) e75) ?_
              rintro _ _ ⟨rfl, rfl⟩
              exact TO.done (X.ob rfl (Pick.refl _))
            · intro Es
              refine TO.bin rfl rfl rfl rfl rfl rfl ?_
              exact TO.done (X.ob rfl (Pick.refl _))
            · intro Es
              refine TO.pickF rfl rfl rfl rfl rfl ?_
              exact TO.done (X.ob rfl (Pick.refl _))
            · intro Es
              refine TO.move rfl rfl rfl rfl ?_
              refine TO.decB (t := 29) (b' := false) rfl (decide_eq_false g76) ?_
              exact TO.done (X.ob2 rfl (Pick.refl _))
            · intro Es
              refine TO.fieldAddr0 rfl rfl rfl rfl TWLCsrPairsa.f33_6 ?_
              exact TO.done (X.ob rfl (Pick.refl _))
            · intro Es
              refine TO.load1 rfl rfl rfl rfl TWLCsrPairsa.s25 (List.Mem.head _) rfl ?_
              exact TO.done (X.ob rfl (Pick.refl _))
            · intro Es
              refine TO.lenX (xs := r14.Cap) hn53 rfl rfl rfl rfl rfl TWLCsrPairsa.l25 ?_
              exact TO.done (X.ob rfl (Pick.refl _))
            · intro Es
              refine TO.loadA rfl rfl rfl rfl TWLCsrPairsa.a33 (List.Mem.head _) rfl ?_
              exact TO.done (X.ob rfl (Pick.refl _))
            · intro Es
              refine TO.callX TWLCsrPairsa.c22 rfl rfl rfl rfl (fun wc hwc => w_csr_Len (c0 := r14) wc (hwc.rs (f := (intC .i64)) (s := 1) (xs := r14.First) (j := j20) (fun _ => rfl) (List.Mem.tail _ (List.Mem.head _)) hn41 hc42 hz44) (hwc.rs (f := (intC .i64)) (s := 1) (xs := r14.Head) (j := j24) (fun _ => rfl) (List.Mem.tail _ (List.Mem.tail _ (List.Mem.head _))) hn45 hc46 hz48) (hwc.rs (f := (intC .i64)) (s := 1) (xs := r14.Rev) (j := j28) (fun _ => rfl) (List.Mem.tail _ (List.Mem.tail _ (List.Mem.tail _ (List.Mem.head _)))) hn49 hc50 hz52) (hwc.rs (f := (intC .i64)) (s := 1) (xs := r14.Cap) (j := j32) (fun _ => rfl) (List.Mem.tail _ (List.Mem.tail _ (List.Mem.tail _ (List.Mem.tail _ (List.Mem.head _))))) hn53 hc54 hz56) (hwc.rs (f := (intC .i64)) (s := 1) (xs := r14.Arc) (j := j36) (fun _ => rfl) (List.Mem.tail _ (List.Mem.tail _ (List.Mem.tail _ (List.Mem.tail _ (List.Mem.tail _ (List.Mem.head _)))))) hn57 hc58 hz60) (hwc.rs (f := boolC) (s := 1) (xs := r14.Back) (j := j40) (fun _ => rfl) (List.Mem.tail _ (List.Mem.tail _ (List.Mem.tail _ (List.Mem.tail _ (List.Mem.tail _ (List.Mem.tail _ (List.Mem.head _))))))) hn61 hc62 hz64) e78) ?_
              rintro _ _ ⟨rfl, rfl⟩
              exact TO.done (X.ob rfl (Pick.refl _))
            · intro Es
              refine TO.bin rfl rfl rfl rfl rfl rfl ?_
              exact TO.done (X.ob rfl (Pick.refl _))
            · intro Es
              refine TO.pickF rfl rfl rfl rfl rfl ?_
              exact TO.done (X.ob rfl (Pick.refl _))
            · intro Es
              refine TO.move rfl rfl rfl rfl ?_
              refine TO.decB (t := 37) (b' := false) rfl (decide_eq_false g79) ?_
              exact TO.done (X.ob2 rfl (Pick.refl _))
            · intro Es
              refine TO.fieldAddr0 rfl rfl rfl rfl TWLCsrPairsa.f33_8 ?_
              exact TO.done (X.ob rfl (Pick.refl _))
            · intro Es
              refine TO.load1 rfl rfl rfl rfl TWLCsrPairsa.s31 (List.Mem.head _) rfl ?_
              exact TO.done (X.ob rfl (Pick.refl _))
            · intro Es
              refine TO.lenX (xs := r14.Back) hn61 rfl rfl rfl rfl rfl TWLCsrPairsa.l31 ?_
              exact TO.done (X.ob rfl (Pick.refl _))
            · intro Es
              refine TO.loadA rfl rfl rfl rfl TWLCsrPairsa.a33 (List.Mem.head _) rfl ?_
              exact TO.done (X.ob rfl (Pick.refl _))
            · intro Es
              refine TO.callX TWLCsrPairsa.c22 rfl rfl rfl rfl (fun wc hwc => w_csr_Len (c0 := r14) wc (hwc.rs (f := (intC .i64)) (s := 1) (xs := r14.First) (j := j20) (fun _ => rfl) (List.Mem.tail _ (List.Mem.head _)) hn41 hc42 hz44) (hwc.rs (f := (intC .i64)) (s := 1) (xs := r14.Head) (j := j24) (fun _ => rfl) (List.Mem.tail _ (List.Mem.tail _ (List.Mem.head _))) hn45 hc46 hz48) (hwc.rs (f := (intC .i64)) (s := 1) (xs := r14.Rev) (j := j28) (fun _ => rfl) (List.Mem.tail _ (List.Mem.tail _ (List.Mem.tail _ (List.Mem.head _)))) hn49 hc50 hz52) (hwc.rs (f := (intC .i64)) (s := 1) (xs := r14.Cap) (j := j32) (fun _ => rfl) (List.Mem.tail _ (List.Mem.tail _ (List.Mem.tail _ (List.Mem.tail _ (List.Mem.head _))))) hn53 hc54 hz56) (hwc.rs (f := (intC .i64)) (s := 1) (xs := r14.Arc) (j := j36) (fun _ => rfl) (List.Mem.tail _ (List.Mem.tail _ (List.Mem.tail _ (List.Mem.tail _ (List.Mem.tail _ (List.Mem.head _)))))) hn57 hc58 hz60) (hwc.rs (f := boolC) (s := 1) (xs := r14.Back) (j := j40) (fun _ => rfl) (List.Mem.tail _ (List.Mem.tail _ (List.Mem.tail _ (List.Mem.tail _ (List.Mem.tail _ (List.Mem.tail _ (List.Mem.head _))))))) hn61 hc62 hz64) e81) ?_
              rintro _ _ ⟨rfl, rfl⟩
              exact TO.done (X.ob rfl (Pick.refl _))
            · intro Es
              refine TO.bin rfl rfl rfl rfl rfl rfl ?_
              exact TO.done (X.ob rfl (Pick.refl _))
            · intro Es
              refine TO.pickF rfl rfl rfl rfl rfl ?_
              exact TO.done (X.ob rfl (Pick.refl _))
            · intro Es
              refine TO.move rfl rfl rfl rfl ?_
              refine TO.decB (t := 45) (b' := true) rfl (decide_eq_true g82) ?_
              exact TO.done (X.ob2 rfl (Pick.refl _))
            · intro Es
              refine TO.shut rfl rfl rfl rfl ?_
              exact TO.done (X.ob rfl (Pick.refl _))
            · intro Es
              refine TO.shut rfl rfl rfl rfl ?_
              exact TO.done (X.ob rfl (Pick.refl _))
            · intro Es
              refine TO.shut rfl rfl rfl rfl ?_
              exact TO.done (X.ob rfl (Pick.refl _))
            · intro Es
              refine TO.shut rfl rfl rfl rfl ?_
              exact TO.done (X.ob rfl (Pick.refl _))
            · intro Es
              refine TO.shut rfl rfl rfl rfl ?_
              exact TO.done (X.ob rfl (Pick.refl _))
          refine TO.shut rfl rfl rfl rfl ?_
          refine TO.pickT rfl rfl rfl rfl rfl ?_
          refine TO.done ?_
          refine X.seq_normal ?_
          refine T.trim (AllF.cons (t := 1) rfl (AllF.cons (t := 3) rfl (AllF.cons (t := 52) rfl AllF.nil))) ?_
          refine T.condT rfl rfl ?_
          refine T.seq ?_
          refine T.regionL (ll := [0]) rfl ?_
          refine TO.assign rfl rfl rfl rfl ?_
          refine TO.done ?_
          refine X.seq_normal ?_
          refine T.ret ?_
          refine X.then_ret ?_
          obtain rfl := ret1 H
          exact X.ret1 rfl rfl rfl rfl (Res.tmp rfl) Pick.nil ⟨rfl, rfl⟩
        ·
          obtain ⟨r83, e84, H⟩ := bd_some H
          apply T.drawQT [(19, _), (20, _), (21, _), (22, _), (23, _), (24, _), (25, _), (26, _), (27, _), (28, _), (29, _), (30, _), (31, _), (32, _), (33, _), (34, _), (35, _), (36, _), (37, _), (38, _), (39, _), (40, _), (41, _), (42, _), (43, _), (44, _), (45, _), (46, _), (47, _), (48, _), (49, _), (50, _)]
          · exact mixed
          · kernel_rfl
          · kernel_rfl
          · exact rfl
          · exact rfl
          · refine ⟨?_, ?_, ?_, ?_, ?_, ?_, ?_, ?_, ?_, ?_, ?_, ?_, ?_, ?_, ?_, ?_, ?_, ?_, ?_, ?_, ?_, ?_, ?_, ?_, ?_, ?_, ?_, ?_, ?_, ?_, ?_, ?_, trivial⟩
            · intro Es
              refine TO.move rfl rfl rfl rfl ?_
              exact TO.done (X.ob rfl (Pick.refl _))
            · intro Es
              refine TO.bin rfl rfl rfl rfl rfl rfl ?_
              exact TO.done (X.ob rfl (Pick.refl _))
            · intro Es
              refine TO.move rfl rfl rfl rfl ?_
              refine TO.decB (t := 21) (b' := false) rfl (decide_eq_false g73) ?_
              exact TO.done (X.ob2 rfl (Pick.refl _))
            · intro Es
              refine TO.fieldAddr0 rfl rfl rfl rfl TWLCsrPairsa.f33_5 ?_
              exact TO.done (X.ob rfl (Pick.refl _))
            · intro Es
              refine TO.load1 rfl rfl rfl rfl TWLCsrPairsa.s30 (List.Mem.head _) rfl ?_
              exact TO.done (X.ob rfl (Pick.refl _))
            · intro Es
              refine TO.lenX (xs := r14.Rev) hn49 rfl rfl rfl rfl rfl TWLCsrPairsa.l30 ?_
              exact TO.done (X.ob rfl (Pick.refl _))
            · intro Es
              refine TO.loadA rfl rfl rfl rfl TWLCsrPairsa.a33 (List.Mem.head _) rfl ?_
              exact TO.done (X.ob rfl (Pick.refl _))
            · intro Es
              refine TO.callX TWLCsrPairsa.c22 rfl rfl rfl rfl (fun wc hwc => w_csr_Len (c0 := r14) wc (hwc.rs (f := (intC .i64)) (s := 1) (xs := r14.First) (j := j20) (fun _ => rfl) (List.Mem.tail _ (List.Mem.head _)) hn41 hc42 hz44) (hwc.rs (f := (intC .i64)) (s := 1) (xs := r14.Head) (j := j24) (fun _ => rfl) (List.Mem.tail _ (List.Mem.tail _ (List.Mem.head _))) hn45 hc46 hz48) (hwc.rs (f := (intC .i64)) (s := 1) (xs := r14.Rev) (j := j28) (fun _ => rfl) (List.Mem.tail _ (List.Mem.tail _ (List.Mem.tail _ (List.Mem.head _)))) hn49 hc50 hz52) (hwc.rs (f := (intC .i64)) (s := 1) (xs := r14.Cap) (j := j32) (fun _ => rfl) (List.Mem.tail _ (List.Mem.tail _ (List.Mem.tail _ (List.Mem.tail _ (List.Mem.head _))))) hn53 hc54 hz56) (hwc.rs (f := (intC .i64)) (s := 1) (xs := r14.Arc) (j := j36) (fun _ => rfl) (List.Mem.tail _ (List.Mem.tail _ (List.Mem.tail _ (List.Mem.tail _ (List.Mem.tail _ (List.Mem.head _)))))) hn57 hc58 hz60) (hwc.rs (f := boolC) (s := 1) (xs := r14.Back) (j := j40) (fun _ => rfl) (List.Mem.tail _ (List.Mem.tail _ (List.Mem.tail _ (List.Mem.tail _ (List.Mem.tail _ (List.Mem.tail _ (List.Mem.head _))))))) hn61 hc62 hz64) e75) ?_
              rintro _ _ ⟨rfl, rfl⟩
              exact TO.done (X.ob rfl (Pick.refl _))
            · intro Es
              refine TO.bin rfl rfl rfl rfl rfl rfl ?_
              exact TO.done (X.ob rfl (Pick.refl _))
            · intro Es
              refine TO.pickF rfl rfl rfl rfl rfl ?_
              exact TO.done (X.ob rfl (Pick.refl _))
            · intro Es
              refine TO.move rfl rfl rfl rfl ?_
              refine TO.decB (t := 29) (b' := false) rfl (decide_eq_false g76) ?_
              exact TO.done (X.ob2 rfl (Pick.refl _))
            · intro Es
              refine TO.fieldAddr0 rfl rfl rfl rfl TWLCsrPairsa.f33_6 ?_
              exact TO.done (X.ob rfl (Pick.refl _))
            · intro Es
              refine TO.load1 rfl rfl rfl rfl TWLCsrPairsa.s25 (List.Mem.head _) rfl ?_
              exact TO.done (X.ob rfl (Pick.refl _))
            · intro Es
              refine TO.lenX (xs := r14.Cap) hn53 rfl rfl rfl rfl rfl TWLCsrPairsa.l25 ?_
              exact TO.done (X.ob rfl (Pick.refl _))
            · intro Es
              refine TO.loadA rfl rfl rfl rfl TWLCsrPairsa.a33 (List.Mem.head _) rfl ?_
              exact TO.done (X.ob rfl (Pick.refl _))
            · intro Es
              refine TO.callX TWLCsrPairsa.c22 rfl rfl rfl rfl (fun wc hwc => w_csr_Len (c0 := r14) wc (hwc.rs (f := (intC .i64)) (s := 1) (xs := r14.First) (j := j20) (fun _ => rfl) (List.Mem.tail _ (List.Mem.head _)) hn41 hc42 hz44) (hwc.rs (f := (intC .i64)) (s := 1) (xs := r14.Head) (j := j24) (fun _ => rfl) (List.Mem.tail _ (List.Mem.tail _ (List.Mem.head _))) hn45 hc46 hz48) (hwc.rs (f := (intC .i64)) (s := 1) (xs := r14.Rev) (j := j28) (fun _ => rfl) (List.Mem.tail _ (List.Mem.tail _ (List.Mem.tail _ (List.Mem.head _)))) hn49 hc50 hz52) (hwc.rs (f := (intC .i64)) (s := 1) (xs := r14.Cap) (j := j32) (fun _ => rfl) (List.Mem.tail _ (List.Mem.tail _ (List.Mem.tail _ (List.Mem.tail _ (List.Mem.head _))))) hn53 hc54 hz56) (hwc.rs (f := (intC .i64)) (s := 1) (xs := r14.Arc) (j := j36) (fun _ => rfl) (List.Mem.tail _ (List.Mem.tail _ (List.Mem.tail _ (List.Mem.tail _ (List.Mem.tail _ (List.Mem.head _)))))) hn57 hc58 hz60) (hwc.rs (f := boolC) (s := 1) (xs := r14.Back) (j := j40) (fun _ => rfl) (List.Mem.tail _ (List.Mem.tail _ (List.Mem.tail _ (List.Mem.tail _ (List.Mem.tail _ (List.Mem.tail _ (List.Mem.head _))))))) hn61 hc62 hz64) e78) ?_
              rintro _ _ ⟨rfl, rfl⟩
              exact TO.done (X.ob rfl (Pick.refl _))
            · intro Es
              refine TO.bin rfl rfl rfl rfl rfl rfl ?_
              exact TO.done (X.ob rfl (Pick.refl _))
            · intro Es
              refine TO.pickF rfl rfl rfl rfl rfl ?_
              exact TO.done (X.ob rfl (Pick.refl _))
            · intro Es
              refine TO.move rfl rfl rfl rfl ?_
              refine TO.decB (t := 37) (b' := false) rfl (decide_eq_false g79) ?_
              exact TO.done (X.ob2 rfl (Pick.refl _))
            · intro Es
              refine TO.fieldAddr0 rfl rfl rfl rfl TWLCsrPairsa.f33_8 ?_
              exact TO.done (X.ob rfl (Pick.refl _))
            · intro Es
              refine TO.load1 rfl rfl rfl rfl TWLCsrPairsa.s31 (List.Mem.head _) rfl ?_
              exact TO.done (X.ob rfl (Pick.refl _))
            · intro Es
              refine TO.lenX (xs := r14.Back) hn61 rfl rfl rfl rfl rfl TWLCsrPairsa.l31 ?_
              exact TO.done (X.ob rfl (Pick.refl _))
            · intro Es
              refine TO.loadA rfl rfl rfl rfl TWLCsrPairsa.a33 (List.Mem.head _) rfl ?_
              exact TO.done (X.ob rfl (Pick.refl _))
            · intro Es
              refine TO.callX TWLCsrPairsa.c22 rfl rfl rfl rfl (fun wc hwc => w_csr_Len (c0 := r14) wc (hwc.rs (f := (intC .i64)) (s := 1) (xs := r14.First) (j := j20) (fun _ => rfl) (List.Mem.tail _ (List.Mem.head _)) hn41 hc42 hz44) (hwc.rs (f := (intC .i64)) (s := 1) (xs := r14.Head) (j := j24) (fun _ => rfl) (List.Mem.tail _ (List.Mem.tail _ (List.Mem.head _))) hn45 hc46 hz48) (hwc.rs (f := (intC .i64)) (s := 1) (xs := r14.Rev) (j := j28) (fun _ => rfl) (List.Mem.tail _ (List.Mem.tail _ (List.Mem.tail _ (List.Mem.head _)))) hn49 hc50 hz52) (hwc.rs (f := (intC .i64)) (s := 1) (xs := r14.Cap) (j := j32) (fun _ => rfl) (List.Mem.tail _ (List.Mem.tail _ (List.Mem.tail _ (List.Mem.tail _ (List.Mem.head _))))) hn53 hc54 hz56) (hwc.rs (f := (intC .i64)) (s := 1) (xs := r14.Arc) (j := j36) (fun _ => rfl) (List.Mem.tail _ (List.Mem.tail _ (List.Mem.tail _ (List.Mem.tail _ (List.Mem.tail _ (List.Mem.head _)))))) hn57 hc58 hz60) (hwc.rs (f := boolC) (s := 1) (xs := r14.Back) (j := j40) (fun _ => rfl) (List.Mem.tail _ (List.Mem.tail _ (List.Mem.tail _ (List.Mem.tail _ (List.Mem.tail _ (List.Mem.tail _ (List.Mem.head _))))))) hn61 hc62 hz64) e81) ?_
              rintro _ _ ⟨rfl, rfl⟩
              exact TO.done (X.ob rfl (Pick.refl _))
            · intro Es
              refine TO.bin rfl rfl rfl rfl rfl rfl ?_
              exact TO.done (X.ob rfl (Pick.refl _))
            · intro Es
              refine TO.pickF rfl rfl rfl rfl rfl ?_
              exact TO.done (X.ob rfl (Pick.refl _))
            · intro Es
              refine TO.move rfl rfl rfl rfl ?_
              refine TO.decB (t := 45) (b' := false) rfl (decide_eq_false g82) ?_
              exact TO.done (X.ob2 rfl (Pick.refl _))
            · intro Es
              refine TO.fieldAddr0 rfl rfl rfl rfl TWLCsrPairsa.f33_7 ?_
              exact TO.done (X.ob rfl (Pick.refl _))
            · intro Es
              refine TO.load1 rfl rfl rfl rfl TWLCsrPairsa.s30 (List.Mem.head _) rfl ?_
              exact TO.done (X.ob rfl (Pick.refl _))
            · intro Es
              refine TO.lenX (xs := r14.Arc) hn57 rfl rfl rfl rfl rfl TWLCsrPairsa.l30 ?_
              exact TO.done (X.ob rfl (Pick.refl _))
            · intro Es
              refine TO.loadA rfl rfl rfl rfl TWLCsrPairsa.a33 (List.Mem.head _) rfl ?_
              exact TO.done (X.ob rfl (Pick.refl _))
            · intro Es
              refine TO.callX TWLCsrPairsa.c22 rfl rfl rfl rfl (fun wc hwc => w_csr_Len (c0 := r14) wc (hwc.rs (f := (intC .i64)) (s := 1) (xs := r14.First) (j := j20) (fun _ => rfl) (List.Mem.tail _ (List.Mem.head _)) hn41 hc42 hz44) (hwc.rs (f := (intC .i64)) (s := 1) (xs := r14.Head) (j := j24) (fun _ => rfl) (List.Mem.tail _ (List.Mem.tail _ (List.Mem.head _))) hn45 hc46 hz48) (hwc.rs (f := (intC .i64)) (s := 1) (xs := r14.Rev) (j := j28) (fun _ => rfl) (List.Mem.tail _ (List.Mem.tail _ (List.Mem.tail _ (List.Mem.head _)))) hn49 hc50 hz52) (hwc.rs (f := (intC .i64)) (s := 1) (xs := r14.Cap) (j := j32) (fun _ => rfl) (List.Mem.tail _ (List.Mem.tail _ (List.Mem.tail _ (List.Mem.tail _ (List.Mem.head _))))) hn53 hc54 hz56) (hwc.rs (f := (intC .i64)) (s := 1) (xs := r14.Arc) (j := j36) (fun _ => rfl) (List.Mem.tail _ (List.Mem.tail _ (List.Mem.tail _ (List.Mem.tail _ (List.Mem.tail _ (List.Mem.head _)))))) hn57 hc58 hz60) (hwc.rs (f := boolC) (s := 1) (xs := r14.Back) (j := j40) (fun _ => rfl) (List.Mem.tail _ (List.Mem.tail _ (List.Mem.tail _ (List.Mem.tail _ (List.Mem.tail _ (List.Mem.tail _ (List.Mem.head _))))))) hn61 hc62 hz64) e84) ?_
              rintro _ _ ⟨rfl, rfl⟩
              exact TO.done (X.ob rfl (Pick.refl _))
          refine TO.bin rfl rfl rfl rfl rfl rfl ?_
          refine TO.pickF rfl rfl rfl rfl rfl ?_
          refine TO.done ?_
          refine X.seq_normal ?_
          refine T.trim (AllF.cons (t := 1) rfl (AllF.cons (t := 3) rfl (AllF.cons (t := 52) rfl AllF.nil))) ?_
          rcases ite_some H with ⟨g85, H⟩ | ⟨g85, H⟩
          ·
            refine T.condPT rfl g85 ?_
            refine T.seq ?_
            refine T.regionL (ll := [0]) rfl ?_
            refine TO.assign rfl rfl rfl rfl ?_
            refine TO.done ?_
            refine X.seq_normal ?_
            refine T.ret ?_
            refine X.then_ret ?_
            obtain rfl := ret1 H
            exact X.ret1 rfl rfl rfl rfl (Res.tmp rfl) Pick.nil ⟨rfl, rfl⟩
          ·
            refine T.condPF rfl g85 ?_
            refine T.skip ?_
            refine X.seq_normal ?_
            refine T.seq ?_
            refine T.seq ?_
            obtain ⟨r86, e87, H⟩ := bd_some H
            refine T.regionL (ll := [0, 1, 2]) rfl ?_
            refine TO.loadA rfl rfl rfl rfl TWLCsrPairsa.a33 (List.Mem.head _) rfl ?_
            refine TO.callX TWLCsrPairsa.c22 rfl rfl rfl rfl (fun wc hwc => w_csr_Len (c0 := r14) wc (hwc.rs (f := (intC .i64)) (s := 1) (xs := r14.First) (j := j20) (fun _ => rfl) (List.Mem.tail _ (List.Mem.head _)) hn41 hc42 hz44) (hwc.rs (f := (intC .i64)) (s := 1) (xs := r14.Head) (j := j24) (fun _ => rfl) (List.Mem.tail _ (List.Mem.tail _ (List.Mem.head _))) hn45 hc46 hz48) (hwc.rs (f := (intC .i64)) (s := 1) (xs := r14.Rev) (j := j28) (fun _ => rfl) (List.Mem.tail _ (List.Mem.tail _ (List.Mem.tail _ (List.Mem.head _)))) hn49 hc50 hz52) (hwc.rs (f := (intC .i64)) (s := 1) (xs := r14.Cap) (j := j32) (fun _ => rfl) (List.Mem.tail _ (List.Mem.tail _ (List.Mem.tail _ (List.Mem.tail _ (List.Mem.head _))))) hn53 hc54 hz56) (hwc.rs (f := (intC .i64)) (s := 1) (xs := r14.Arc) (j := j36) (fun _ => rfl) (List.Mem.tail _ (List.Mem.tail _ (List.Mem.tail _ (List.Mem.tail _ (List.Mem.tail _ (List.Mem.head _)))))) hn57 hc58 hz60) (hwc.rs (f := boolC) (s := 1) (xs := r14.Back) (j := j40) (fun _ => rfl) (List.Mem.tail _ (List.Mem.tail _ (List.Mem.tail _ (List.Mem.tail _ (List.Mem.tail _ (List.Mem.tail _ (List.Mem.head _))))))) hn61 hc62 hz64) e87) ?_
            rintro _ _ ⟨rfl, rfl⟩
            refine TO.move rfl rfl rfl rfl ?_
            refine TO.done ?_
            refine X.seq_normal ?_
            refine T.meetSE1 (fun (u138 : Unit) => m_acequialaw02_CsrPairs_j2 = some r0) (fun (u138 : Unit) => []) (fun (u138 : Unit) => []) ?_ ?_
            ·
              refine T.block ?_
              obtain ⟨o_1, e_1, K_1⟩ := bd_some H
              refine T.loopE2 (fun (m_1 : Nat) (x88 : Int) => loopM (fun s => m_acequialaw02_CsrPairs_s1 r3 r14 r86 s) m_1 x88 = some o_1) (fun (m_1 : Nat) (x88 : Int) => [(1, .pointer (some ⟨b1, 0, none⟩)), (3, .pointer (some ⟨b71, 0, none⟩)), (54, .int .i64 r86), (55, .int .i64 x88)]) (fun (m_1 : Nat) (x88 : Int) => [(some b1, .cells #[.int .i64 r3.N, .int .i64 r3.S, .int .i64 r3.T, .slice (sb ob5) n6 c7] 24 (0, 0)), (ob5, .cells (arr arcC r3.Arcs j8).toArray 28 (0, 0)), (some b71, .cells #[.int .i64 r14.N, .int .i64 r14.S, .int .i64 r14.T, .slice (sb ob17) n18 c19, .slice (sb ob21) n22 c23, .slice (sb ob25) n26 c27, .slice (sb ob29) n30 c31, .slice (sb ob33) n34 c35, .slice (sb ob37) n38 c39] 33 (0, 0)), (ob17, .cells (arr (intC .i64) r14.First j20).toArray 3 (0, 0)), (ob21, .cells (arr (intC .i64) r14.Head j24).toArray 3 (0, 0)), (ob25, .cells (arr (intC .i64) r14.Rev j28).toArray 3 (0, 0)), (ob29, .cells (arr (intC .i64) r14.Cap j32).toArray 2 (0, 0)), (ob33, .cells (arr (intC .i64) r14.Arc j36).toArray 3 (0, 0)), (ob37, .cells (arr boolC r14.Back j40).toArray 4 (0, 0))]) (fun (m_1 : Nat) (x88 : Int) => m_1) FUEL 0 e_1 (AllF.cons rfl (AllF.cons rfl (AllF.cons rfl (AllF.cons rfl AllF.nil)))) (Pick.cons (Take.tail (Take.tail (Take.tail (Take.tail (Take.tail (Take.tail (Take.tail (Take.head _ _)))))))) (Pick.cons (Take.tail (Take.tail (Take.tail (Take.tail (Take.tail (Take.tail (Take.tail (Take.head _ _)))))))) (Pick.cons (Take.head _ _) (Pick.cons (Take.head _ _) (Pick.cons (Take.head _ _) (Pick.cons (Take.head _ _) (Pick.cons (Take.head _ _) (Pick.cons (Take.head _ _) (Pick.cons (Take.head _ _) Pick.nil))))))))) ?_
              rintro m_1 x88 H
              obtain ⟨n_1, r_1, rfl, H, C_1⟩ := loopM_some H
              have H : m_acequialaw02_CsrPairs_s1 r3 r14 r86 x88 = some r_1 := H
              unfold m_acequialaw02_CsrPairs_s1 at H
              refine T.seq ?_
              refine T.regionL (ll := [0]) rfl ?_
              refine TO.bin rfl rfl rfl rfl rfl rfl ?_
              refine TO.done ?_
              refine X.seq_normal ?_
              refine T.seq ?_
              rcases ite_some H with ⟨g89, H⟩ | ⟨g89, H⟩
              ·
                refine T.condPT rfl g89 ?_
                refine T.skip ?_
                refine X.seq_normal ?_
                refine T.seq ?_
                refine T.block ?_
                refine T.seq ?_
                refine T.regionL (ll := [0, 1]) rfl ?_
                refine TO.move rfl rfl rfl rfl ?_
                refine TO.assign rfl rfl rfl rfl ?_
                refine TO.done ?_
                refine X.seq_normal ?_
                refine T.seq ?_
                obtain ⟨g90, H⟩ := gd_some H
                refine T.regionL (ll := [0, 1, 2, 3, 4, 5]) rfl ?_
                refine TO.fieldAddr0 rfl rfl rfl rfl TWLCsrPairsa.f33_5 ?_
                refine TO.load1 rfl rfl rfl rfl TWLCsrPairsa.s30 (List.Mem.tail _ (List.Mem.tail _ (List.Mem.head _))) rfl ?_
                refine TO.move rfl rfl rfl rfl ?_
                refine TO.ixV hz52 hc50 hn49 g90 rfl rfl rfl rfl rfl TWLCsrPairsa.l30 TWLCsrPairsa.n3 ?_
                refine TO.ldIV hz52 hc50 hn49 g90 rfl rfl rfl rfl TWLCsrPairsa.s3 (List.Mem.tail _ (List.Mem.tail _ (List.Mem.tail _ (List.Mem.tail _ (List.Mem.tail _ (List.Mem.head _)))))) ?_
                refine TO.assign rfl rfl rfl rfl ?_
                refine TO.done ?_
                refine X.seq_normal ?_
                refine T.seq ?_
                refine T.seq ?_
                rcases ite_some H with ⟨g91, H⟩ | ⟨g91, H⟩
                ·
                  apply T.drawQT [(63, _), (64, _), (65, _), (66, _), (67, _), (68, _), (69, _), (70, _), (71, _), (72, _), (73, _), (74, _), (75, _), (76, _), (77, _), (78, _), (79, _), (80, _), (81, _), (82, _), (83, _), (84, _), (85, _), (86, _), (87, _), (88, _), (89, _), (90, _), (91, _), (92, _), (93, _), (94, _), (95, _), (96, _), (97, _), (98, _), (99, _), (100, _), (101, _), (102, _), (103, _), (104, _), (105, _), (106, _), (107, _), (108, _)]
                  · exact mixed
                  · kernel_rfl
                  · kernel_rfl
                  · exact rfl
                  · exact rfl
                  · refine ⟨?_, ?_, ?_, ?_, ?_, ?_, ?_, ?_, ?_, ?_, ?_, ?_, ?_, ?_, ?_, ?_, ?_, ?_, ?_, ?_, ?_, ?_, ?_, ?_, ?_, ?_, ?_, ?_, ?_, ?_, ?_, ?_, ?_, ?_, ?_, ?_, ?_, ?_, ?_, ?_, ?_, ?_, ?_, ?_, ?_, ?_, trivial⟩
                    · intro Es
                      refine TO.move rfl rfl rfl rfl ?_
                      exact TO.done (X.ob rfl (Pick.refl _))
                    · intro Es
                      refine TO.bin rfl rfl rfl rfl rfl rfl ?_
                      exact TO.done (X.ob rfl (Pick.refl _))
                    · intro Es
                      refine TO.move rfl rfl rfl rfl ?_
                      refine TO.decB (t := 65) (b' := true) rfl (decide_eq_true g91) ?_
                      exact TO.done (X.ob2 rfl (Pick.refl _))
                    · intro Es
                      refine TO.shut rfl rfl rfl rfl ?_
                      exact TO.done (X.ob rfl (Pick.refl _))
                    · intro Es
                      refine TO.shut rfl rfl rfl rfl ?_
                      exact TO.done (X.ob rfl (Pick.refl _))
                    · intro Es
                      refine TO.shut rfl rfl rfl rfl ?_
                      exact TO.done (X.ob rfl (Pick.refl _))
                    · intro Es
                      refine TO.shut rfl rfl rfl rfl ?_
                      exact TO.done (X.ob rfl (Pick.refl _))
                    · intro Es
                      refine TO.pickT rfl rfl rfl rfl rfl ?_
                      exact TO.done (X.ob rfl (Pick.refl _))
                    · intro Es
                      refine TO.move rfl rfl rfl rfl ?_
                      exact TO.done (X.ob rfl (Pick.refl _))
                    · intro Es
                      refine TO.shut rfl rfl rfl rfl ?_
                      exact TO.done (X.ob rfl (Pick.refl _))
                    · intro Es
                      refine TO.shut rfl rfl rfl rfl ?_
                      exact TO.done (X.ob rfl (Pick.refl _))
                    · intro Es
                      refine TO.shut rfl rfl rfl rfl ?_
                      exact TO.done (X.ob rfl (Pick.refl _))
                    · intro Es
                      refine TO.pickT rfl rfl rfl rfl rfl ?_
                      exact TO.done (X.ob rfl (Pick.refl _))
                    · intro Es
                      refine TO.move rfl rfl rfl rfl ?_
                      exact TO.done (X.ob rfl (Pick.refl _))
                    · intro Es
                      refine TO.shut rfl rfl rfl rfl ?_
                      exact TO.done (X.ob rfl (Pick.refl _))
                    · intro Es
                      refine TO.shut rfl rfl rfl rfl ?_
                      exact TO.done (X.ob rfl (Pick.refl _))
                    · intro Es
                      refine TO.shut rfl rfl rfl rfl ?_
                      exact TO.done (X.ob rfl (Pick.refl _))
                    · intro Es
                      refine TO.shut rfl rfl rfl rfl ?_
                      exact TO.done (X.ob rfl (Pick.refl _))
                    · intro Es
                      refine TO.shut rfl rfl rfl rfl ?_
                      exact TO.done (X.ob rfl (Pick.refl _))
                    · intro Es
                      refine TO.shut rfl rfl rfl rfl ?_
                      exact TO.done (X.ob rfl (Pick.refl _))
                    · intro Es
                      refine TO.shut rfl rfl rfl rfl ?_
                      exact TO.done (X.ob rfl (Pick.refl _))
                    · intro Es
                      refine TO.pickT rfl rfl rfl rfl rfl ?_
                      exact TO.done (X.ob rfl (Pick.refl _))
                    · intro Es
                      refine TO.move rfl rfl rfl rfl ?_
                      exact TO.done (X.ob rfl (Pick.refl _))
                    · intro Es
                      refine TO.shut rfl rfl rfl rfl ?_
                      exact TO.done (X.ob rfl (Pick.refl _))
                    · intro Es
                      refine TO.shut rfl rfl rfl rfl ?_
                      exact TO.done (X.ob rfl (Pick.refl _))
                    · intro Es
                      refine TO.shut rfl rfl rfl rfl ?_
                      exact TO.done (X.ob rfl (Pick.refl _))
                    · intro Es
                      refine TO.shut rfl rfl rfl rfl ?_
                      exact TO.done (X.ob rfl (Pick.refl _))
                    · intro Es
                      refine TO.shut rfl rfl rfl rfl ?_
                      exact TO.done (X.ob rfl (Pick.refl _))
                    · intro Es
                      refine TO.shut rfl rfl rfl rfl ?_
                      exact TO.done (X.ob rfl (Pick.refl _))
                    · intro Es
                      refine TO.shut rfl rfl rfl rfl ?_
                      exact TO.done (X.ob rfl (Pick.refl _))
                    · intro Es
                      refine TO.shut rfl rfl rfl rfl ?_
                      exact TO.done (X.ob rfl (Pick.refl _))
                    · intro Es
                      refine TO.shut rfl rfl rfl rfl ?_
                      exact TO.done (X.ob rfl (Pick.refl _))
                    · intro Es
                      refine TO.shut rfl rfl rfl rfl ?_
                      exact TO.done (X.ob rfl (Pick.refl _))
                    · intro Es
                      refine TO.shut rfl rfl rfl rfl ?_
                      exact TO.done (X.ob rfl (Pick.refl _))
                    · intro Es
                      refine TO.pickT rfl rfl rfl rfl rfl ?_
                      exact TO.done (X.ob rfl (Pick.refl _))
                    · intro Es
                      refine TO.move rfl rfl rfl rfl ?_
                      exact TO.done (X.ob rfl (Pick.refl _))
                    · intro Es
                      refine TO.shut rfl rfl rfl rfl ?_
                      exact TO.done (X.ob rfl (Pick.refl _))
                    · intro Es
                      refine TO.shut rfl rfl rfl rfl ?_
                      exact TO.done (X.ob rfl (Pick.refl _))
                    · intro Es
                      refine TO.shut rfl rfl rfl rfl ?_
                      exact TO.done (X.ob rfl (Pick.refl _))
                    · intro Es
                      refine TO.shut rfl rfl rfl rfl ?_
                      exact TO.done (X.ob rfl (Pick.refl _))
                    · intro Es
                      refine TO.shut rfl rfl rfl rfl ?_
                      exact TO.done (X.ob rfl (Pick.refl _))
                    · intro Es
                      refine TO.shut rfl rfl rfl rfl ?_
                      exact TO.done (X.ob rfl (Pick.refl _))
                    · intro Es
                      refine TO.shut rfl rfl rfl rfl ?_
                      exact TO.done (X.ob rfl (Pick.refl _))
                    · intro Es
                      refine TO.shut rfl rfl rfl rfl ?_
                      exact TO.done (X.ob rfl (Pick.refl _))
                    · intro Es
                      refine TO.shut rfl rfl rfl rfl ?_
                      exact TO.done (X.ob rfl (Pick.refl _))
                    · intro Es
                      refine TO.shut rfl rfl rfl rfl ?_
                      exact TO.done (X.ob rfl (Pick.refl _))
                  refine TO.shut rfl rfl rfl rfl ?_
                  refine TO.pickT rfl rfl rfl rfl rfl ?_
                  refine TO.done ?_
                  refine X.seq_normal ?_
                  refine T.trim (AllF.cons (t := 1) rfl (AllF.cons (t := 3) rfl (AllF.cons (t := 54) rfl (AllF.cons (t := 55) rfl (AllF.cons (t := 5) rfl (AllF.cons (t := 6) rfl (AllF.cons (t := 66) rfl (AllF.cons (t := 67) rfl (AllF.cons (t := 68) rfl (AllF.cons (t := 69) rfl (AllF.cons (t := 72) rfl (AllF.cons (t := 73) rfl (AllF.cons (t := 74) rfl (AllF.cons (t := 77) rfl (AllF.cons (t := 78) rfl (AllF.cons (t := 79) rfl (AllF.cons (t := 80) rfl (AllF.cons (t := 81) rfl (AllF.cons (t := 82) rfl (AllF.cons (t := 83) rfl (AllF.cons (t := 86) rfl (AllF.cons (t := 87) rfl (AllF.cons (t := 88) rfl (AllF.cons (t := 89) rfl (AllF.cons (t := 90) rfl (AllF.cons (t := 91) rfl (AllF.cons (t := 92) rfl (AllF.cons (t := 93) rfl (AllF.cons (t := 94) rfl (AllF.cons (t := 95) rfl (AllF.cons (t := 96) rfl (AllF.cons (t := 99) rfl (AllF.cons (t := 100) rfl (AllF.cons (t := 101) rfl (AllF.cons (t := 102) rfl (AllF.cons (t := 103) rfl (AllF.cons (t := 104) rfl (AllF.cons (t := 105) rfl (AllF.cons (t := 106) rfl (AllF.cons (t := 107) rfl (AllF.cons (t := 108) rfl (AllF.cons (t := 109) rfl (AllF.cons (t := 110) rfl AllF.nil))))))))))))))))))))))))))))))))))))))))))) ?_
                  refine T.condT rfl rfl ?_
                  refine T.seq ?_
                  refine T.regionL (ll := [0]) rfl ?_
                  refine TO.assign rfl rfl rfl rfl ?_
                  refine TO.done ?_
                  refine X.seq_normal ?_
                  refine T.trim (AllF.cons (t := 2) rfl AllF.nil) ?_
                  refine T.ret ?_
                  refine X.then_ret ?_
                  refine X.block_ret ?_
                  refine X.then_ret ?_
                  have H := loop_exitE H C_1 ▸ K_1
                  refine X.then_ret ?_
                  refine X.block_ret ?_
                  refine X.then_ret ?_
                  obtain rfl := ret1 H
                  exact X.ret1 rfl rfl rfl rfl (Res.tmp rfl) Pick.nil ⟨rfl, rfl⟩
                ·
                  obtain ⟨r92, e93, H⟩ := bd_some H
                  rcases ite_some H with ⟨g94, H⟩ | ⟨g94, H⟩
                  ·
                    apply T.drawQT [(63, _), (64, _), (65, _), (66, _), (67, _), (68, _), (69, _), (70, _), (71, _), (72, _), (73, _), (74, _), (75, _), (76, _), (77, _), (78, _), (79, _), (80, _), (81, _), (82, _), (83, _), (84, _), (85, _), (86, _), (87, _), (88, _), (89, _), (90, _), (91, _), (92, _), (93, _), (94, _), (95, _), (96, _), (97, _), (98, _), (99, _), (100, _), (101, _), (102, _), (103, _), (104, _), (105, _), (106, _), (107, _), (108, _)]
                    · exact mixed
                    · kernel_rfl
                    · kernel_rfl
                    · exact rfl
                    · exact rfl
                    · refine ⟨?_, ?_, ?_, ?_, ?_, ?_, ?_, ?_, ?_, ?_, ?_, ?_, ?_, ?_, ?_, ?_, ?_, ?_, ?_, ?_, ?_, ?_, ?_, ?_, ?_, ?_, ?_, ?_, ?_, ?_, ?_, ?_, ?_, ?_, ?_, ?_, ?_, ?_, ?_, ?_, ?_, ?_, ?_, ?_, ?_, ?_, trivial⟩
                      · intro Es
                        refine TO.move rfl rfl rfl rfl ?_
                        exact TO.done (X.ob rfl (Pick.refl _))
                      · intro Es
                        refine TO.bin rfl rfl rfl rfl rfl rfl ?_
                        exact TO.done (X.ob rfl (Pick.refl _))
                      · intro Es
                        refine TO.move rfl rfl rfl rfl ?_
                        refine TO.decB (t := 65) (b' := false) rfl (decide_eq_false g91) ?_
                        exact TO.done (X.ob2 rfl (Pick.refl _))
                      · intro Es
                        refine TO.move rfl rfl rfl rfl ?_
                        exact TO.done (X.ob rfl (Pick.refl _))
                      · intro Es
                        refine TO.loadA rfl rfl rfl rfl TWLCsrPairsa.a33 (List.Mem.tail _ (List.Mem.tail _ (List.Mem.head _))) rfl ?_
                        exact TO.done (X.ob rfl (Pick.refl _))
                      · intro Es
                        refine TO.callX TWLCsrPairsa.c22 rfl rfl rfl rfl (fun wc hwc => w_csr_Len (c0 := r14) wc (hwc.rs (f := (intC .i64)) (s := 1) (xs := r14.First) (j := j20) (fun _ => rfl) (List.Mem.tail _ (List.Mem.tail _ (List.Mem.tail _ (List.Mem.head _)))) hn41 hc42 hz44) (hwc.rs (f := (intC .i64)) (s := 1) (xs := r14.Head) (j := j24) (fun _ => rfl) (List.Mem.tail _ (List.Mem.tail _ (List.Mem.tail _ (List.Mem.tail _ (List.Mem.head _))))) hn45 hc46 hz48) (hwc.rs (f := (intC .i64)) (s := 1) (xs := r14.Rev) (j := j28) (fun _ => rfl) (List.Mem.tail _ (List.Mem.tail _ (List.Mem.tail _ (List.Mem.tail _ (List.Mem.tail _ (List.Mem.head _)))))) hn49 hc50 hz52) (hwc.rs (f := (intC .i64)) (s := 1) (xs := r14.Cap) (j := j32) (fun _ => rfl) (List.Mem.tail _ (List.Mem.tail _ (List.Mem.tail _ (List.Mem.tail _ (List.Mem.tail _ (List.Mem.tail _ (List.Mem.head _))))))) hn53 hc54 hz56) (hwc.rs (f := (intC .i64)) (s := 1) (xs := r14.Arc) (j := j36) (fun _ => rfl) (List.Mem.tail _ (List.Mem.tail _ (List.Mem.tail _ (List.Mem.tail _ (List.Mem.tail _ (List.Mem.tail _ (List.Mem.tail _ (List.Mem.head _)))))))) hn57 hc58 hz60) (hwc.rs (f := boolC) (s := 1) (xs := r14.Back) (j := j40) (fun _ => rfl) (List.Mem.tail _ (List.Mem.tail _ (List.Mem.tail _ (List.Mem.tail _ (List.Mem.tail _ (List.Mem.tail _ (List.Mem.tail _ (List.Mem.tail _ (List.Mem.head _))))))))) hn61 hc62 hz64) e93) ?_
                        rintro _ _ ⟨rfl, rfl⟩
                        exact TO.done (X.ob rfl (Pick.refl _))
                      · intro Es
                        refine TO.bin rfl rfl rfl rfl rfl rfl ?_
                        exact TO.done (X.ob rfl (Pick.refl _))
                      · intro Es
                        refine TO.pickF rfl rfl rfl rfl rfl ?_
                        exact TO.done (X.ob rfl (Pick.refl _))
                      · intro Es
                        refine TO.move rfl rfl rfl rfl ?_
                        refine TO.decB (t := 71) (b' := true) rfl (decide_eq_true g94) ?_
                        exact TO.done (X.ob2 rfl (Pick.refl _))
                      · intro Es
                        refine TO.shut rfl rfl rfl rfl ?_
                        exact TO.done (X.ob rfl (Pick.refl _))
                      · intro Es
                        refine TO.shut rfl rfl rfl rfl ?_
                        exact TO.done (X.ob rfl (Pick.refl _))
                      · intro Es
                        refine TO.shut rfl rfl rfl rfl ?_
                        exact TO.done (X.ob rfl (Pick.refl _))
                      · intro Es
                        refine TO.pickT rfl rfl rfl rfl rfl ?_
                        exact TO.done (X.ob rfl (Pick.refl _))
                      · intro Es
                        refine TO.move rfl rfl rfl rfl ?_
                        exact TO.done (X.ob rfl (Pick.refl _))
                      · intro Es
                        refine TO.shut rfl rfl rfl rfl ?_
                        exact TO.done (X.ob rfl (Pick.refl _))
                      · intro Es
                        refine TO.shut rfl rfl rfl rfl ?_
                        exact TO.done (X.ob rfl (Pick.refl _))
                      · intro Es
                        refine TO.shut rfl rfl rfl rfl ?_
                        exact TO.done (X.ob rfl (Pick.refl _))
                      · intro Es
                        refine TO.shut rfl rfl rfl rfl ?_
                        exact TO.done (X.ob rfl (Pick.refl _))
                      · intro Es
                        refine TO.shut rfl rfl rfl rfl ?_
                        exact TO.done (X.ob rfl (Pick.refl _))
                      · intro Es
                        refine TO.shut rfl rfl rfl rfl ?_
                        exact TO.done (X.ob rfl (Pick.refl _))
                      · intro Es
                        refine TO.shut rfl rfl rfl rfl ?_
                        exact TO.done (X.ob rfl (Pick.refl _))
                      · intro Es
                        refine TO.pickT rfl rfl rfl rfl rfl ?_
                        exact TO.done (X.ob rfl (Pick.refl _))
                      · intro Es
                        refine TO.move rfl rfl rfl rfl ?_
                        exact TO.done (X.ob rfl (Pick.refl _))
                      · intro Es
                        refine TO.shut rfl rfl rfl rfl ?_
                        exact TO.done (X.ob rfl (Pick.refl _))
                      · intro Es
                        refine TO.shut rfl rfl rfl rfl ?_
                        exact TO.done (X.ob rfl (Pick.refl _))
                      · intro Es
                        refine TO.shut rfl rfl rfl rfl ?_
                        exact TO.done (X.ob rfl (Pick.refl _))
                      · intro Es
                        refine TO.shut rfl rfl rfl rfl ?_
                        exact TO.done (X.ob rfl (Pick.refl _))
                      · intro Es
                        refine TO.shut rfl rfl rfl rfl ?_
                        exact TO.done (X.ob rfl (Pick.refl _))
                      · intro Es
                        refine TO.shut rfl rfl rfl rfl ?_
                        exact TO.done (X.ob rfl (Pick.refl _))
                      · intro Es
                        refine TO.shut rfl rfl rfl rfl ?_
                        exact TO.done (X.ob rfl (Pick.refl _))
                      · intro Es
                        refine TO.shut rfl rfl rfl rfl ?_
                        exact TO.done (X.ob rfl (Pick.refl _))
                      · intro Es
                        refine TO.shut rfl rfl rfl rfl ?_
                        exact TO.done (X.ob rfl (Pick.refl _))
                      · intro Es
                        refine TO.shut rfl rfl rfl rfl ?_
                        exact TO.done (X.ob rfl (Pick.refl _))
                      · intro Es
                        refine TO.shut rfl rfl rfl rfl ?_
                        exact TO.done (X.ob rfl (Pick.refl _))
                      · intro Es
                        refine TO.pickT rfl rfl rfl rfl rfl ?_
                        exact TO.done (X.ob rfl (Pick.refl _))
                      · intro Es
                        refine TO.move rfl rfl rfl rfl ?_
                        exact TO.done (X.ob rfl (Pick.refl _))
                      · intro Es
                        refine TO.shut rfl rfl rfl rfl ?_
                        exact TO.done (X.ob rfl (Pick.refl _))
                      · intro Es
                        refine TO.shut rfl rfl rfl rfl ?_
                        exact TO.done (X.ob rfl (Pick.refl _))
                      · intro Es
                        refine TO.shut rfl rfl rfl rfl ?_
                        exact TO.done (X.ob rfl (Pick.refl _))
                      · intro Es
                        refine TO.shut rfl rfl rfl rfl ?_
                        exact TO.done (X.ob rfl (Pick.refl _))
                      · intro Es
                        refine TO.shut rfl rfl rfl rfl ?_
                        exact TO.done (X.ob rfl (Pick.refl _))
                      · intro Es
                        refine TO.shut rfl rfl rfl rfl ?_
                        exact TO.done (X.ob rfl (Pick.refl _))
                      · intro Es
                        refine TO.shut rfl rfl rfl rfl ?_
                        exact TO.done (X.ob rfl (Pick.refl _))
                      · intro Es
                        refine TO.shut rfl rfl rfl rfl ?_
                        exact TO.done (X.ob rfl (Pick.refl _))
                      · intro Es
                        refine TO.shut rfl rfl rfl rfl ?_
                        exact TO.done (X.ob rfl (Pick.refl _))
                      · intro Es
                        refine TO.shut rfl rfl rfl rfl ?_
                        exact TO.done (X.ob rfl (Pick.refl _))
                    refine TO.shut rfl rfl rfl rfl ?_
                    refine TO.pickT rfl rfl rfl rfl rfl ?_
                    refine TO.done ?_
                    refine X.seq_normal ?_
                    refine T.trim (AllF.cons (t := 1) rfl (AllF.cons (t := 3) rfl (AllF.cons (t := 54) rfl (AllF.cons (t := 55) rfl (AllF.cons (t := 5) rfl (AllF.cons (t := 6) rfl (AllF.cons (t := 66) rfl (AllF.cons (t := 67) rfl (AllF.cons (t := 68) rfl (AllF.cons (t := 69) rfl (AllF.cons (t := 72) rfl (AllF.cons (t := 73) rfl (AllF.cons (t := 74) rfl (AllF.cons (t := 77) rfl (AllF.cons (t := 78) rfl (AllF.cons (t := 79) rfl (AllF.cons (t := 80) rfl (AllF.cons (t := 81) rfl (AllF.cons (t := 82) rfl (AllF.cons (t := 83) rfl (AllF.cons (t := 86) rfl (AllF.cons (t := 87) rfl (AllF.cons (t := 88) rfl (AllF.cons (t := 89) rfl (AllF.cons (t := 90) rfl (AllF.cons (t := 91) rfl (AllF.cons (t := 92) rfl (AllF.cons (t := 93) rfl (AllF.cons (t := 94) rfl (AllF.cons (t := 95) rfl (AllF.cons (t := 96) rfl (AllF.cons (t := 99) rfl (AllF.cons (t := 100) rfl (AllF.cons (t := 101) rfl (AllF.cons (t := 102) rfl (AllF.cons (t := 103) rfl (AllF.cons (t := 104) rfl (AllF.cons (t := 105) rfl (AllF.cons (t := 106) rfl (AllF.cons (t := 107) rfl (AllF.cons (t := 108) rfl (AllF.cons (t := 109) rfl (AllF.cons (t := 110) rfl AllF.nil))))))))))))))))))))))))))))))))))))))))))) ?_
                    refine T.condT rfl rfl ?_
                    refine T.seq ?_
                    refine T.regionL (ll := [0]) rfl ?_
                    refine TO.assign rfl rfl rfl rfl ?_
                    refine TO.done ?_
                    refine X.seq_normal ?_
                    refine T.trim (AllF.cons (t := 2) rfl AllF.nil) ?_
                    refine T.ret ?_
                    refine X.then_ret ?_
                    refine X.block_ret ?_
                    refine X.then_ret ?_
                    have H := loop_exitE H C_1 ▸ K_1
                    refine X.then_ret ?_
                    refine X.block_ret ?_
                    refine X.then_ret ?_
                    obtain rfl := ret1 H
                    exact X.ret1 rfl rfl rfl rfl (Res.tmp rfl) Pick.nil ⟨rfl, rfl⟩
                  ·
                    rcases ite_some H with ⟨g95, H⟩ | ⟨g95, H⟩
                    ·
                      apply T.drawQT [(63, _), (64, _), (65, _), (66, _), (67, _), (68, _), (69, _), (70, _), (71, _), (72, _), (73, _), (74, _), (75, _), (76, _), (77, _), (78, _), (79, _), (80, _), (81, _), (82, _), (83, _), (84, _), (85, _), (86, _), (87, _), (88, _), (89, _), (90, _), (91, _), (92, _), (93, _), (94, _), (95, _), (96, _), (97, _), (98, _), (99, _), (100, _), (101, _), (102, _), (103, _), (104, _), (105, _), (106, _), (107, _), (108, _)]
                      · exact mixed
                      · kernel_rfl
                      · kernel_rfl
                      · exact rfl
                      · exact rfl
                      · refine ⟨?_, ?_, ?_, ?_, ?_, ?_, ?_, ?_, ?_, ?_, ?_, ?_, ?_, ?_, ?_, ?_, ?_, ?_, ?_, ?_, ?_, ?_, ?_, ?_, ?_, ?_, ?_, ?_, ?_, ?_, ?_, ?_, ?_, ?_, ?_, ?_, ?_, ?_, ?_, ?_, ?_, ?_, ?_, ?_, ?_, ?_, trivial⟩
                        · intro Es
                          refine TO.move rfl rfl rfl rfl ?_
                          exact TO.done (X.ob rfl (Pick.refl _))
                        · intro Es
                          refine TO.bin rfl rfl rfl rfl rfl rfl ?_
                          exact TO.done (X.ob rfl (Pick.refl _))
                        · intro Es
                          refine TO.move rfl rfl rfl rfl ?_
                          refine TO.decB (t := 65) (b' := false) rfl (decide_eq_false g91) ?_
                          exact TO.done (X.ob2 rfl (Pick.refl _))
                        · intro Es
                          refine TO.move rfl rfl rfl rfl ?_
                          exact TO.done (X.ob rfl (Pick.refl _))
                        · intro Es
                          refine TO.loadA rfl rfl rfl rfl TWLCsrPairsa.a33 (List.Mem.tail _ (List.Mem.tail _ (List.Mem.head _))) rfl ?_
                          exact TO.done (X.ob rfl (Pick.refl _))
                        · intro Es
                          refine TO.callX TWLCsrPairsa.c22 rfl rfl rfl rfl (fun wc hwc => w_csr_Len (c0 := r14) wc (hwc.rs (f := (intC .i64)) (s := 1) (xs := r14.First) (j := j20) (fun _ => rfl) (List.Mem.tail _ (List.Mem.tail _ (List.Mem.tail _ (List.Mem.head _)))) hn41 hc42 hz44) (hwc.rs (f := (intC .i64)) (s := 1) (xs := r14.Head) (j := j24) (fun _ => rfl) (List.Mem.tail _ (List.Mem.tail _ (List.Mem.tail _ (List.Mem.tail _ (List.Mem.head _))))) hn45 hc46 hz48) (hwc.rs (f := (intC .i64)) (s := 1) (xs := r14.Rev) (j := j28) (fun _ => rfl) (List.Mem.tail _ (List.Mem.tail _ (List.Mem.tail _ (List.Mem.tail _ (List.Mem.tail _ (List.Mem.head _)))))) hn49 hc50 hz52) (hwc.rs (f := (intC .i64)) (s := 1) (xs := r14.Cap) (j := j32) (fun _ => rfl) (List.Mem.tail _ (List.Mem.tail _ (List.Mem.tail _ (List.Mem.tail _ (List.Mem.tail _ (List.Mem.tail _ (List.Mem.head _))))))) hn53 hc54 hz56) (hwc.rs (f := (intC .i64)) (s := 1) (xs := r14.Arc) (j := j36) (fun _ => rfl) (List.Mem.tail _ (List.Mem.tail _ (List.Mem.tail _ (List.Mem.tail _ (List.Mem.tail _ (List.Mem.tail _ (List.Mem.tail _ (List.Mem.head _)))))))) hn57 hc58 hz60) (hwc.rs (f := boolC) (s := 1) (xs := r14.Back) (j := j40) (fun _ => rfl) (List.Mem.tail _ (List.Mem.tail _ (List.Mem.tail _ (List.Mem.tail _ (List.Mem.tail _ (List.Mem.tail _ (List.Mem.tail _ (List.Mem.tail _ (List.Mem.head _))))))))) hn61 hc62 hz64) e93) ?_
                          rintro _ _ ⟨rfl, rfl⟩
                          exact TO.done (X.ob rfl (Pick.refl _))
                        · intro Es
                          refine TO.bin rfl rfl rfl rfl rfl rfl ?_
                          exact TO.done (X.ob rfl (Pick.refl _))
                        · intro Es
                          refine TO.pickF rfl rfl rfl rfl rfl ?_
                          exact TO.done (X.ob rfl (Pick.refl _))
                        · intro Es
                          refine TO.move rfl rfl rfl rfl ?_
                          refine TO.decB (t := 71) (b' := false) rfl (decide_eq_false g94) ?_
                          exact TO.done (X.ob2 rfl (Pick.refl _))
                        · intro Es
                          refine TO.move rfl rfl rfl rfl ?_
                          exact TO.done (X.ob rfl (Pick.refl _))
                        · intro Es
                          refine TO.move rfl rfl rfl rfl ?_
                          exact TO.done (X.ob rfl (Pick.refl _))
                        · intro Es
                          refine TO.bin rfl rfl rfl rfl rfl rfl ?_
                          exact TO.done (X.ob rfl (Pick.refl _))
                        · intro Es
                          refine TO.pickF rfl rfl rfl rfl rfl ?_
                          exact TO.done (X.ob rfl (Pick.refl _))
                        · intro Es
                          refine TO.move rfl rfl rfl rfl ?_
                          refine TO.decB (t := 76) (b' := true) rfl (decide_eq_true g95) ?_
                          exact TO.done (X.ob2 rfl (Pick.refl _))
                        · intro Es
                          refine TO.shut rfl rfl rfl rfl ?_
                          exact TO.done (X.ob rfl (Pick.refl _))
                        · intro Es
                          refine TO.shut rfl rfl rfl rfl ?_
                          exact TO.done (X.ob rfl (Pick.refl _))
                        · intro Es
                          refine TO.shut rfl rfl rfl rfl ?_
                          exact TO.done (X.ob rfl (Pick.refl _))
                        · intro Es
                          refine TO.shut rfl rfl rfl rfl ?_
                          exact TO.done (X.ob rfl (Pick.refl _))
                        · intro Es
                          refine TO.shut rfl rfl rfl rfl ?_
                          exact TO.done (X.ob rfl (Pick.refl _))
                        · intro Es
                          refine TO.shut rfl rfl rfl rfl ?_
                          exact TO.done (X.ob rfl (Pick.refl _))
                        · intro Es
                          refine TO.shut rfl rfl rfl rfl ?_
                          exact TO.done (X.ob rfl (Pick.refl _))
                        · intro Es
                          refine TO.pickT rfl rfl rfl rfl rfl ?_
                          exact TO.done (X.ob rfl (Pick.refl _))
                        · intro Es
                          refine TO.move rfl rfl rfl rfl ?_
                          exact TO.done (X.ob rfl (Pick.refl _))
                        · intro Es
                          refine TO.shut rfl rfl rfl rfl ?_
                          exact TO.done (X.ob rfl (Pick.refl _))
                        · intro Es
                          refine TO.shut rfl rfl rfl rfl ?_
                          exact TO.done (X.ob rfl (Pick.refl _))
                        · intro Es
                          refine TO.shut rfl rfl rfl rfl ?_
                          exact TO.done (X.ob rfl (Pick.refl _))
                        · intro Es
                          refine TO.shut rfl rfl rfl rfl ?_
                          exact TO.done (X.ob rfl (Pick.refl _))
                        · intro Es
                          refine TO.shut rfl rfl rfl rfl ?_
                          exact TO.done (X.ob rfl (Pick.refl _))
                        · intro Es
                          refine TO.shut rfl rfl rfl rfl ?_
                          exact TO.done (X.ob rfl (Pick.refl _))
                        · intro Es
                          refine TO.shut rfl rfl rfl rfl ?_
                          exact TO.done (X.ob rfl (Pick.refl _))
                        · intro Es
                          refine TO.shut rfl rfl rfl rfl ?_
                          exact TO.done (X.ob rfl (Pick.refl _))
                        · intro Es
                          refine TO.shut rfl rfl rfl rfl ?_
                          exact TO.done (X.ob rfl (Pick.refl _))
                        · intro Es
                          refine TO.shut rfl rfl rfl rfl ?_
                          exact TO.done (X.ob rfl (Pick.refl _))
                        · intro Es
                          refine TO.shut rfl rfl rfl rfl ?_
                          exact TO.done (X.ob rfl (Pick.refl _))
                        · intro Es
                          refine TO.pickT rfl rfl rfl rfl rfl ?_
                          exact TO.done (X.ob rfl (Pick.refl _))
                        · intro Es
                          refine TO.move rfl rfl rfl rfl ?_
                          exact TO.done (X.ob rfl (Pick.refl _))
                        · intro Es
                          refine TO.shut rfl rfl rfl rfl ?_
                          exact TO.done (X.ob rfl (Pick.refl _))
                        · intro Es
                          refine TO.shut rfl rfl rfl rfl ?_
                          exact TO.done (X.ob rfl (Pick.refl _))
                        · intro Es
                          refine TO.shut rfl rfl rfl rfl ?_
                          exact TO.done (X.ob rfl (Pick.refl _))
                        · intro Es
                          refine TO.shut rfl rfl rfl rfl ?_
                          exact TO.done (X.ob rfl (Pick.refl _))
                        · intro Es
                          refine TO.shut rfl rfl rfl rfl ?_
                          exact TO.done (X.ob rfl (Pick.refl _))
                        · intro Es
                          refine TO.shut rfl rfl rfl rfl ?_
                          exact TO.done (X.ob rfl (Pick.refl _))
                        · intro Es
                          refine TO.shut rfl rfl rfl rfl ?_
                          exact TO.done (X.ob rfl (Pick.refl _))
                        · intro Es
                          refine TO.shut rfl rfl rfl rfl ?_
                          exact TO.done (X.ob rfl (Pick.refl _))
                        · intro Es
                          refine TO.shut rfl rfl rfl rfl ?_
                          exact TO.done (X.ob rfl (Pick.refl _))
                        · intro Es
                          refine TO.shut rfl rfl rfl rfl ?_
                          exact TO.done (X.ob rfl (Pick.refl _))
                      refine TO.shut rfl rfl rfl rfl ?_
                      refine TO.pickT rfl rfl rfl rfl rfl ?_
                      refine TO.done ?_
                      refine X.seq_normal ?_
                      refine T.trim (AllF.cons (t := 1) rfl (AllF.cons (t := 3) rfl (AllF.cons (t := 54) rfl (AllF.cons (t := 55) rfl (AllF.cons (t := 5) rfl (AllF.cons (t := 6) rfl (AllF.cons (t := 66) rfl (AllF.cons (t := 67) rfl (AllF.cons (t := 68) rfl (AllF.cons (t := 69) rfl (AllF.cons (t := 72) rfl (AllF.cons (t := 73) rfl (AllF.cons (t := 74) rfl (AllF.cons (t := 77) rfl (AllF.cons (t := 78) rfl (AllF.cons (t := 79) rfl (AllF.cons (t := 80) rfl (AllF.cons (t := 81) rfl (AllF.cons (t := 82) rfl (AllF.cons (t := 83) rfl (AllF.cons (t := 86) rfl (AllF.cons (t := 87) rfl (AllF.cons (t := 88) rfl (AllF.cons (t := 89) rfl (AllF.cons (t := 90) rfl (AllF.cons (t := 91) rfl (AllF.cons (t := 92) rfl (AllF.cons (t := 93) rfl (AllF.cons (t := 94) rfl (AllF.cons (t := 95) rfl (AllF.cons (t := 96) rfl (AllF.cons (t := 99) rfl (AllF.cons (t := 100) rfl (AllF.cons (t := 101) rfl (AllF.cons (t := 102) rfl (AllF.cons (t := 103) rfl (AllF.cons (t := 104) rfl (AllF.cons (t := 105) rfl (AllF.cons (t := 106) rfl (AllF.cons (t := 107) rfl (AllF.cons (t := 108) rfl (AllF.cons (t := 109) rfl (AllF.cons (t := 110) rfl AllF.nil))))))))))))))))))))))))))))))))))))))))))) ?_
                      refine T.condT rfl rfl ?_
                      refine T.seq ?_
                      refine T.regionL (ll := [0]) rfl ?_
                      refine TO.assign rfl rfl rfl rfl ?_
                      refine TO.done ?_
                      refine X.seq_normal ?_
                      refine T.trim (AllF.cons (t := 2) rfl AllF.nil) ?_
                      refine T.ret ?_
                      refine X.then_ret ?_
                      refine X.block_ret ?_
                      refine X.then_ret ?_
                      have H := loop_exitE H C_1 ▸ K_1
                      refine X.then_ret ?_
                      refine X.block_ret ?_
                      refine X.then_ret ?_
                      obtain rfl := ret1 H
                      exact X.ret1 rfl rfl rfl rfl (Res.tmp rfl) Pick.nil ⟨rfl, rfl⟩
                    ·
                      obtain ⟨g96, H⟩ := gd_some H
                      rcases ite_some H with ⟨g97, H⟩ | ⟨g97, H⟩
                      ·
                        apply T.drawQT [(63, _), (64, _), (65, _), (66, _), (67, _), (68, _), (69, _), (70, _), (71, _), (72, _), (73, _), (74, _), (75, _), (76, _), (77, _), (78, _), (79, _), (80, _), (81, _), (82, _), (83, _), (84, _), (85, _), (86, _), (87, _), (88, _), (89, _), (90, _), (91, _), (92, _), (93, _), (94, _), (95, _), (96, _), (97, _), (98, _), (99, _), (100, _), (101, _), (102, _), (103, _), (104, _), (105, _), (106, _), (107, _), (108, _)]
                        · exact mixed
                        · kernel_rfl
                        · kernel_rfl
                        · exact rfl
                        · exact rfl
                        · refine ⟨?_, ?_, ?_, ?_, ?_, ?_, ?_, ?_, ?_, ?_, ?_, ?_, ?_, ?_, ?_, ?_, ?_, ?_, ?_, ?_, ?_, ?_, ?_, ?_, ?_, ?_, ?_, ?_, ?_, ?_, ?_, ?_, ?_, ?_, ?_, ?_, ?_, ?_, ?_, ?_, ?_, ?_, ?_, ?_, ?_, ?_, trivial⟩
                          · intro Es
                            refine TO.move rfl rfl rfl rfl ?_
                            exact TO.done (X.ob rfl (Pick.refl _))
                          · intro Es
                            refine TO.bin rfl rfl rfl rfl rfl rfl ?_
                            exact TO.done (X.ob rfl (Pick.refl _))
                          · intro Es
                            refine TO.move rfl rfl rfl rfl ?_
                            refine TO.decB (t := 65) (b' := false) rfl (decide_eq_false g91) ?_
                            exact TO.done (X.ob2 rfl (Pick.refl _))
                          · intro Es
                            refine TO.move rfl rfl rfl rfl ?_
                            exact TO.done (X.ob rfl (Pick.refl _))
                          · intro Es
                            refine TO.loadA rfl rfl rfl rfl TWLCsrPairsa.a33 (List.Mem.tail _ (List.Mem.tail _ (List.Mem.head _))) rfl ?_
                            exact TO.done (X.ob rfl (Pick.refl _))
                          · intro Es
                            refine TO.callX TWLCsrPairsa.c22 rfl rfl rfl rfl (fun wc hwc => w_csr_Len (c0 := r14) wc (hwc.rs (f := (intC .i64)) (s := 1) (xs := r14.First) (j := j20) (fun _ => rfl) (List.Mem.tail _ (List.Mem.tail _ (List.Mem.tail _ (List.Mem.head _)))) hn41 hc42 hz44) (hwc.rs (f := (intC .i64)) (s := 1) (xs := r14.Head) (j := j24) (fun _ => rfl) (List.Mem.tail _ (List.Mem.tail _ (List.Mem.tail _ (List.Mem.tail _ (List.Mem.head _))))) hn45 hc46 hz48) (hwc.rs (f := (intC .i64)) (s := 1) (xs := r14.Rev) (j := j28) (fun _ => rfl) (List.Mem.tail _ (List.Mem.tail _ (List.Mem.tail _ (List.Mem.tail _ (List.Mem.tail _ (List.Mem.head _)))))) hn49 hc50 hz52) (hwc.rs (f := (intC .i64)) (s := 1) (xs := r14.Cap) (j := j32) (fun _ => rfl) (List.Mem.tail _ (List.Mem.tail _ (List.Mem.tail _ (List.Mem.tail _ (List.Mem.tail _ (List.Mem.tail _ (List.Mem.head _))))))) hn53 hc54 hz56) (hwc.rs (f := (intC .i64)) (s := 1) (xs := r14.Arc) (j := j36) (fun _ => rfl) (List.Mem.tail _ (List.Mem.tail _ (List.Mem.tail _ (List.Mem.tail _ (List.Mem.tail _ (List.Mem.tail _ (List.Mem.tail _ (List.Mem.head _)))))))) hn57 hc58 hz60) (hwc.rs (f := boolC) (s := 1) (xs := r14.Back) (j := j40) (fun _ => rfl) (List.Mem.tail _ (List.Mem.tail _ (List.Mem.tail _ (List.Mem.tail _ (List.Mem.tail _ (List.Mem.tail _ (List.Mem.tail _ (List.Mem.tail _ (List.Mem.head _))))))))) hn61 hc62 hz64) e93) ?_
                            rintro _ _ ⟨rfl, rfl⟩
                            exact TO.done (X.ob rfl (Pick.refl _))
                          · intro Es
                            refine TO.bin rfl rfl rfl rfl rfl rfl ?_
                            exact TO.done (X.ob rfl (Pick.refl _))
                          · intro Es
                            refine TO.pickF rfl rfl rfl rfl rfl ?_
                            exact TO.done (X.ob rfl (Pick.refl _))
                          · intro Es
                            refine TO.move rfl rfl rfl rfl ?_
                            refine TO.decB (t := 71) (b' := false) rfl (decide_eq_false g94) ?_
                            exact TO.done (X.ob2 rfl (Pick.refl _))
                          · intro Es
                            refine TO.move rfl rfl rfl rfl ?_
                            exact TO.done (X.ob rfl (Pick.refl _))
                          · intro Es
                            refine TO.move rfl rfl rfl rfl ?_
                            exact TO.done (X.ob rfl (Pick.refl _))
                          · intro Es
                            refine TO.bin rfl rfl rfl rfl rfl rfl ?_
                            exact TO.done (X.ob rfl (Pick.refl _))
                          · intro Es
                            refine TO.pickF rfl rfl rfl rfl rfl ?_
                            exact TO.done (X.ob rfl (Pick.refl _))
                          · intro Es
                            refine TO.move rfl rfl rfl rfl ?_
                            refine TO.decB (t := 76) (b' := false) rfl (decide_eq_false g95) ?_
                            exact TO.done (X.ob2 rfl (Pick.refl _))
                          · intro Es
                            refine TO.fieldAddr0 rfl rfl rfl rfl TWLCsrPairsa.f33_5 ?_
                            exact TO.done (X.ob rfl (Pick.refl _))
                          · intro Es
                            refine TO.load1 rfl rfl rfl rfl TWLCsrPairsa.s30 (List.Mem.tail _ (List.Mem.tail _ (List.Mem.head _))) rfl ?_
                            exact TO.done (X.ob rfl (Pick.refl _))
                          · intro Es
                            refine TO.move rfl rfl rfl rfl ?_
                            exact TO.done (X.ob rfl (Pick.refl _))
                          · intro Es
                            refine TO.ixV hz52 hc50 hn49 g96 rfl rfl rfl rfl rfl TWLCsrPairsa.l30 TWLCsrPairsa.n3 ?_
                            exact TO.done (X.ob rfl (Pick.refl _))
                          · intro Es
                            refine TO.ldIV hz52 hc50 hn49 g96 rfl rfl rfl rfl TWLCsrPairsa.s3 (List.Mem.tail _ (List.Mem.tail _ (List.Mem.tail _ (List.Mem.tail _ (List.Mem.tail _ (List.Mem.head _)))))) ?_
                            exact TO.done (X.ob rfl (Pick.refl _))
                          · intro Es
                            refine TO.move rfl rfl rfl rfl ?_
                            exact TO.done (X.ob rfl (Pick.refl _))
                          · intro Es
                            refine TO.bin rfl rfl rfl rfl rfl rfl ?_
                            exact TO.done (X.ob rfl (Pick.refl _))
                          · intro Es
                            refine TO.pickF rfl rfl rfl rfl rfl ?_
                            exact TO.done (X.ob rfl (Pick.refl _))
                          · intro Es
                            refine TO.move rfl rfl rfl rfl ?_
                            refine TO.decB (t := 85) (b' := true) rfl (decide_eq_true g97) ?_
                            exact TO.done (X.ob2 rfl (Pick.refl _))
                          · intro Es
                            refine TO.shut rfl rfl rfl rfl ?_
                            exact TO.done (X.ob rfl (Pick.refl _))
                          · intro Es
                            refine TO.shut rfl rfl rfl rfl ?_
                            exact TO.done (X.ob rfl (Pick.refl _))
                          · intro Es
                            refine TO.shut rfl rfl rfl rfl ?_
                            exact TO.done (X.ob rfl (Pick.refl _))
                          · intro Es
                            refine TO.shut rfl rfl rfl rfl ?_
                            exact TO.done (X.ob rfl (Pick.refl _))
                          · intro Es
                            refine TO.shut rfl rfl rfl rfl ?_
                            exact TO.done (X.ob rfl (Pick.refl _))
                          · intro Es
                            refine TO.shut rfl rfl rfl rfl ?_
                            exact TO.done (X.ob rfl (Pick.refl _))
                          · intro Es
                            refine TO.shut rfl rfl rfl rfl ?_
                            exact TO.done (X.ob rfl (Pick.refl _))
                          · intro Es
                            refine TO.shut rfl rfl rfl rfl ?_
                            exact TO.done (X.ob rfl (Pick.refl _))
                          · intro Es
                            refine TO.shut rfl rfl rfl rfl ?_
                            exact TO.done (X.ob rfl (Pick.refl _))
                          · intro Es
                            refine TO.shut rfl rfl rfl rfl ?_
                            exact TO.done (X.ob rfl (Pick.refl _))
                          · intro Es
                            refine TO.shut rfl rfl rfl rfl ?_
                            exact TO.done (X.ob rfl (Pick.refl _))
                          · intro Es
                            refine TO.pickT rfl rfl rfl rfl rfl ?_
                            exact TO.done (X.ob rfl (Pick.refl _))
                          · intro Es
                            refine TO.move rfl rfl rfl rfl ?_
                            exact TO.done (X.ob rfl (Pick.refl _))
                          · intro Es
                            refine TO.shut rfl rfl rfl rfl ?_
                            exact TO.done (X.ob rfl (Pick.refl _))
                          · intro Es
                            refine TO.shut rfl rfl rfl rfl ?_
                            exact TO.done (X.ob rfl (Pick.refl _))
                          · intro Es
                            refine TO.shut rfl rfl rfl rfl ?_
                            exact TO.done (X.ob rfl (Pick.refl _))
                          · intro Es
                            refine TO.shut rfl rfl rfl rfl ?_
                            exact TO.done (X.ob rfl (Pick.refl _))
                          · intro Es
                            refine TO.shut rfl rfl rfl rfl ?_
                            exact TO.done (X.ob rfl (Pick.refl _))
                          · intro Es
                            refine TO.shut rfl rfl rfl rfl ?_
                            exact TO.done (X.ob rfl (Pick.refl _))
                          · intro Es
                            refine TO.shut rfl rfl rfl rfl ?_
                            exact TO.done (X.ob rfl (Pick.refl _))
                          · intro Es
                            refine TO.shut rfl rfl rfl rfl ?_
                            exact TO.done (X.ob rfl (Pick.refl _))
                          · intro Es
                            refine TO.shut rfl rfl rfl rfl ?_
                            exact TO.done (X.ob rfl (Pick.refl _))
                          · intro Es
                            refine TO.shut rfl rfl rfl rfl ?_
                            exact TO.done (X.ob rfl (Pick.refl _))
                        refine TO.shut rfl rfl rfl rfl ?_
                        refine TO.pickT rfl rfl rfl rfl rfl ?_
                        refine TO.done ?_
                        refine X.seq_normal ?_
                        refine T.trim (AllF.cons (t := 1) rfl (AllF.cons (t := 3) rfl (AllF.cons (t := 54) rfl (AllF.cons (t := 55) rfl (AllF.cons (t := 5) rfl (AllF.cons (t := 6) rfl (AllF.cons (t := 66) rfl (AllF.cons (t := 67) rfl (AllF.cons (t := 68) rfl (AllF.cons (t := 69) rfl (AllF.cons (t := 72) rfl (AllF.cons (t := 73) rfl (AllF.cons (t := 74) rfl (AllF.cons (t := 77) rfl (AllF.cons (t := 78) rfl (AllF.cons (t := 79) rfl (AllF.cons (t := 80) rfl (AllF.cons (t := 81) rfl (AllF.cons (t := 82) rfl (AllF.cons (t := 83) rfl (AllF.cons (t := 86) rfl (AllF.cons (t := 87) rfl (AllF.cons (t := 88) rfl (AllF.cons (t := 89) rfl (AllF.cons (t := 90) rfl (AllF.cons (t := 91) rfl (AllF.cons (t := 92) rfl (AllF.cons (t := 93) rfl (AllF.cons (t := 94) rfl (AllF.cons (t := 95) rfl (AllF.cons (t := 96) rfl (AllF.cons (t := 99) rfl (AllF.cons (t := 100) rfl (AllF.cons (t := 101) rfl (AllF.cons (t := 102) rfl (AllF.cons (t := 103) rfl (AllF.cons (t := 104) rfl (AllF.cons (t := 105) rfl (AllF.cons (t := 106) rfl (AllF.cons (t := 107) rfl (AllF.cons (t := 108) rfl (AllF.cons (t := 109) rfl (AllF.cons (t := 110) rfl AllF.nil))))))))))))))))))))))))))))))))))))))))))) ?_
                        refine T.condT rfl rfl ?_
                        refine T.seq ?_
                        refine T.regionL (ll := [0]) rfl ?_
                        refine TO.assign rfl rfl rfl rfl ?_
                        refine TO.done ?_
                        refine X.seq_normal ?_
                        refine T.trim (AllF.cons (t := 2) rfl AllF.nil) ?_
                        refine T.ret ?_
                        refine X.then_ret ?_
                        refine X.block_ret ?_
                        refine X.then_ret ?_
                        have H := loop_exitE H C_1 ▸ K_1
                        refine X.then_ret ?_
                        refine X.block_ret ?_
                        refine X.then_ret ?_
                        obtain rfl := ret1 H
                        exact X.ret1 rfl rfl rfl rfl (Res.tmp rfl) Pick.nil ⟨rfl, rfl⟩
                      ·
                        obtain ⟨g98, H⟩ := gd_some H
                        obtain ⟨g99, H⟩ := gd_some H
                        rcases ite_some H with ⟨g100, H⟩ | ⟨g100, H⟩
                        ·
                          apply T.drawQT [(63, _), (64, _), (65, _), (66, _), (67, _), (68, _), (69, _), (70, _), (71, _), (72, _), (73, _), (74, _), (75, _), (76, _), (77, _), (78, _), (79, _), (80, _), (81, _), (82, _), (83, _), (84, _), (85, _), (86, _), (87, _), (88, _), (89, _), (90, _), (91, _), (92, _), (93, _), (94, _), (95, _), (96, _), (97, _), (98, _), (99, _), (100, _), (101, _), (102, _), (103, _), (104, _), (105, _), (106, _), (107, _), (108, _)]
                          · exact mixed
                          · kernel_rfl
                          · kernel_rfl
                          · exact rfl
                          · exact rfl
                          · refine ⟨?_, ?_, ?_, ?_, ?_, ?_, ?_, ?_, ?_, ?_, ?_, ?_, ?_, ?_, ?_, ?_, ?_, ?_, ?_, ?_, ?_, ?_, ?_, ?_, ?_, ?_, ?_, ?_, ?_, ?_, ?_, ?_, ?_, ?_, ?_, ?_, ?_, ?_, ?_, ?_, ?_, ?_, ?_, ?_, ?_, ?_, trivial⟩
                            · intro Es
                              refine TO.move rfl rfl rfl rfl ?_
                              exact TO.done (X.ob rfl (Pick.refl _))
                            · intro Es
                              refine TO.bin rfl rfl rfl rfl rfl rfl ?_
                              exact TO.done (X.ob rfl (Pick.refl _))
                            · intro Es
                              refine TO.move rfl rfl rfl rfl ?_
                              refine TO.decB (t := 65) (b' := false) rfl (decide_eq_false g91) ?_
                              exact TO.done (X.ob2 rfl (Pick.refl _))
                            · intro Es
                              refine TO.move rfl rfl rfl rfl ?_
                              exact TO.done (X.ob rfl (Pick.refl _))
                            · intro Es
                              refine TO.loadA rfl rfl rfl rfl TWLCsrPairsa.a33 (List.Mem.tail _ (List.Mem.tail _ (List.Mem.head _))) rfl ?_
                              exact TO.done (X.ob rfl (Pick.refl _))
                            · intro Es
                              refine TO.callX TWLCsrPairsa.c22 rfl rfl rfl rfl (fun wc hwc => w_csr_Len (c0 := r14) wc (hwc.rs (f := (intC .i64)) (s := 1) (xs := r14.First) (j := j20) (fun _ => rfl) (List.Mem.tail _ (List.Mem.tail _ (List.Mem.tail _ (List.Mem.head _)))) hn41 hc42 hz44) (hwc.rs (f := (intC .i64)) (s := 1) (xs := r14.Head) (j := j24) (fun _ => rfl) (List.Mem.tail _ (List.Mem.tail _ (List.Mem.tail _ (List.Mem.tail _ (List.Mem.head _))))) hn45 hc46 hz48) (hwc.rs (f := (intC .i64)) (s := 1) (xs := r14.Rev) (j := j28) (fun _ => rfl) (List.Mem.tail _ (List.Mem.tail _ (List.Mem.tail _ (List.Mem.tail _ (List.Mem.tail _ (List.Mem.head _)))))) hn49 hc50 hz52) (hwc.rs (f := (intC .i64)) (s := 1) (xs := r14.Cap) (j := j32) (fun _ => rfl) (List.Mem.tail _ (List.Mem.tail _ (List.Mem.tail _ (List.Mem.tail _ (List.Mem.tail _ (List.Mem.tail _ (List.Mem.head _))))))) hn53 hc54 hz56) (hwc.rs (f := (intC .i64)) (s := 1) (xs := r14.Arc) (j := j36) (fun _ => rfl) (List.Mem.tail _ (List.Mem.tail _ (List.Mem.tail _ (List.Mem.tail _ (List.Mem.tail _ (List.Mem.tail _ (List.Mem.tail _ (List.Mem.head _)))))))) hn57 hc58 hz60) (hwc.rs (f := boolC) (s := 1) (xs := r14.Back) (j := j40) (fun _ => rfl) (List.Mem.tail _ (List.Mem.tail _ (List.Mem.tail _ (List.Mem.tail _ (List.Mem.tail _ (List.Mem.tail _ (List.Mem.tail _ (List.Mem.tail _ (List.Mem.head _))))))))) hn61 hc62 hz64) e93) ?_
                              rintro _ _ ⟨rfl, rfl⟩
                              exact TO.done (X.ob rfl (Pick.refl _))
                            · intro Es
                              refine TO.bin rfl rfl rfl rfl rfl rfl ?_
                              exact TO.done (X.ob rfl (Pick.refl _))
                            · intro Es
                              refine TO.pickF rfl rfl rfl rfl rfl ?_
                              exact TO.done (X.ob rfl (Pick.refl _))
                            · intro Es
                              refine TO.move rfl rfl rfl rfl ?_
                              refine TO.decB (t := 71) (b' := false) rfl (decide_eq_false g94) ?_
                              exact TO.done (X.ob2 rfl (Pick.refl _))
                            · intro Es
                              refine TO.move rfl rfl rfl rfl ?_
                              exact TO.done (X.ob rfl (Pick.refl _))
                            · intro Es
                              refine TO.move rfl rfl rfl rfl ?_
                              exact TO.done (X.ob rfl (Pick.refl _))
                            · intro Es
                              refine TO.bin rfl rfl rfl rfl rfl rfl ?_
                              exact TO.done (X.ob rfl (Pick.refl _))
                            · intro Es
                              refine TO.pickF rfl rfl rfl rfl rfl ?_
                              exact TO.done (X.ob rfl (Pick.refl _))
                            · intro Es
                              refine TO.move rfl rfl rfl rfl ?_
                              refine TO.decB (t := 76) (b' := false) rfl (decide_eq_false g95) ?_
                              exact TO.done (X.ob2 rfl (Pick.refl _))
                            · intro Es
                              refine TO.fieldAddr0 rfl rfl rfl rfl TWLCsrPairsa.f33_5 ?_
                              exact TO.done (X.ob rfl (Pick.refl _))
                            · intro Es
                              refine TO.load1 rfl rfl rfl rfl TWLCsrPairsa.s30 (List.Mem.tail _ (List.Mem.tail _ (List.Mem.head _))) rfl ?_
                              exact TO.done (X.ob rfl (Pick.refl _))
                            · intro Es
                              refine TO.move rfl rfl rfl rfl ?_
                              exact TO.done (X.ob rfl (Pick.refl _))
                            · intro Es
                              refine TO.ixV hz52 hc50 hn49 g96 rfl rfl rfl rfl rfl TWLCsrPairsa.l30 TWLCsrPairsa.n3 ?_
                              exact TO.done (X.ob rfl (Pick.refl _))
                            · intro Es
                              refine TO.ldIV hz52 hc50 hn49 g96 rfl rfl rfl rfl TWLCsrPairsa.s3 (List.Mem.tail _ (List.Mem.tail _ (List.Mem.tail _ (List.Mem.tail _ (List.Mem.tail _ (List.Mem.head _)))))) ?_
                              exact TO.done (X.ob rfl (Pick.refl _))
                            · intro Es
                              refine TO.move rfl rfl rfl rfl ?_
                              exact TO.done (X.ob rfl (Pick.refl _))
                            · intro Es
                              refine TO.bin rfl rfl rfl rfl rfl rfl ?_
                              exact TO.done (X.ob rfl (Pick.refl _))
                            · intro Es
                              refine TO.pickF rfl rfl rfl rfl rfl ?_
                              exact TO.done (X.ob rfl (Pick.refl _))
                            · intro Es
                              refine TO.move rfl rfl rfl rfl ?_
                              refine TO.decB (t := 85) (b' := false) rfl (decide_eq_false g97) ?_
                              exact TO.done (X.ob2 rfl (Pick.refl _))
                            · intro Es
                              refine TO.fieldAddr0 rfl rfl rfl rfl TWLCsrPairsa.f33_7 ?_
                              exact TO.done (X.ob rfl (Pick.refl _))
                            · intro Es
                              refine TO.load1 rfl rfl rfl rfl TWLCsrPairsa.s30 (List.Mem.tail _ (List.Mem.tail _ (List.Mem.head _))) rfl ?_
                              exact TO.done (X.ob rfl (Pick.refl _))
                            · intro Es
                              refine TO.move rfl rfl rfl rfl ?_
                              exact TO.done (X.ob rfl (Pick.refl _))
                            · intro Es
                              refine TO.ixV hz60 hc58 hn57 g98 rfl rfl rfl rfl rfl TWLCsrPairsa.l30 TWLCsrPairsa.n3 ?_
                              exact TO.done (X.ob rfl (Pick.refl _))
                            · intro Es
                              refine TO.ldIV hz60 hc58 hn57 g98 rfl rfl rfl rfl TWLCsrPairsa.s3 (List.Mem.tail _ (List.Mem.tail _ (List.Mem.tail _ (List.Mem.tail _ (List.Mem.tail _ (List.Mem.tail _ (List.Mem.tail _ (List.Mem.head _)))))))) ?_
                              exact TO.done (X.ob rfl (Pick.refl _))
                            · intro Es
                              refine TO.fieldAddr0 rfl rfl rfl rfl TWLCsrPairsa.f33_7 ?_
                              exact TO.done (X.ob rfl (Pick.refl _))
                            · intro Es
                              refine TO.load1 rfl rfl rfl rfl TWLCsrPairsa.s30 (List.Mem.tail _ (List.Mem.tail _ (List.Mem.head _))) rfl ?_
                              exact TO.done (X.ob rfl (Pick.refl _))
                            · intro Es
                              refine TO.move rfl rfl rfl rfl ?_
                              exact TO.done (X.ob rfl (Pick.refl _))
                            · intro Es
                              refine TO.ixV hz60 hc58 hn57 g99 rfl rfl rfl rfl rfl TWLCsrPairsa.l30 TWLCsrPairsa.n3 ?_
                              exact TO.done (X.ob rfl (Pick.refl _))
                            · intro Es
                              refine TO.ldIV hz60 hc58 hn57 g99 rfl rfl rfl rfl TWLCsrPairsa.s3 (List.Mem.tail _ (List.Mem.tail _ (List.Mem.tail _ (List.Mem.tail _ (List.Mem.tail _ (List.Mem.tail _ (List.Mem.tail _ (List.Mem.head _)))))))) ?_
                              exact TO.done (X.ob rfl (Pick.refl _))
                            · intro Es
                              refine TO.bin rfl rfl rfl rfl rfl rfl ?_
                              exact TO.done (X.ob rfl (Pick.refl _))
                            · intro Es
                              refine TO.pickF rfl rfl rfl rfl rfl ?_
                              exact TO.done (X.ob rfl (Pick.refl _))
                            · intro Es
                              refine TO.move rfl rfl rfl rfl ?_
                              refine TO.decB (t := 98) (b' := true) rfl (decide_eq_true g100) ?_
                              exact TO.done (X.ob2 rfl (Pick.refl _))
                            · intro Es
                              refine TO.shut rfl rfl rfl rfl ?_
                              exact TO.done (X.ob rfl (Pick.refl _))
                            · intro Es
                              refine TO.shut rfl rfl rfl rfl ?_
                              exact TO.done (X.ob rfl (Pick.refl _))
                            · intro Es
                              refine TO.shut rfl rfl rfl rfl ?_
                              exact TO.done (X.ob rfl (Pick.refl _))
                            · intro Es
                              refine TO.shut rfl rfl rfl rfl ?_
                              exact TO.done (X.ob rfl (Pick.refl _))
                            · intro Es
                              refine TO.shut rfl rfl rfl rfl ?_
                              exact TO.done (X.ob rfl (Pick.refl _))
                            · intro Es
                              refine TO.shut rfl rfl rfl rfl ?_
                              exact TO.done (X.ob rfl (Pick.refl _))
                            · intro Es
                              refine TO.shut rfl rfl rfl rfl ?_
                              exact TO.done (X.ob rfl (Pick.refl _))
                            · intro Es
                              refine TO.shut rfl rfl rfl rfl ?_
                              exact TO.done (X.ob rfl (Pick.refl _))
                            · intro Es
                              refine TO.shut rfl rfl rfl rfl ?_
                              exact TO.done (X.ob rfl (Pick.refl _))
                            · intro Es
                              refine TO.shut rfl rfl rfl rfl ?_
                              exact TO.done (X.ob rfl (Pick.refl _))
                          refine TO.shut rfl rfl rfl rfl ?_
                          refine TO.pickT rfl rfl rfl rfl rfl ?_
                          refine TO.done ?_
                          refine X.seq_normal ?_
                          refine T.trim (AllF.cons (t := 1) rfl (AllF.cons (t := 3) rfl (AllF.cons (t := 54) rfl (AllF.cons (t := 55) rfl (AllF.cons (t := 5) rfl (AllF.cons (t := 6) rfl (AllF.cons (t := 66) rfl (AllF.cons (t := 67) rfl (AllF.cons (t := 68) rfl (AllF.cons (t := 69) rfl (AllF.cons (t := 72) rfl (AllF.cons (t := 73) rfl (AllF.cons (t := 74) rfl (AllF.cons (t := 77) rfl (AllF.cons (t := 78) rfl (AllF.cons (t := 79) rfl (AllF.cons (t := 80) rfl (AllF.cons (t := 81) rfl (AllF.cons (t := 82) rfl (AllF.cons (t := 83) rfl (AllF.cons (t := 86) rfl (AllF.cons (t := 87) rfl (AllF.cons (t := 88) rfl (AllF.cons (t := 89) rfl (AllF.cons (t := 90) rfl (AllF.cons (t := 91) rfl (AllF.cons (t := 92) rfl (AllF.cons (t := 93) rfl (AllF.cons (t := 94) rfl (AllF.cons (t := 95) rfl (AllF.cons (t := 96) rfl (AllF.cons (t := 99) rfl (AllF.cons (t := 100) rfl (AllF.cons (t := 101) rfl (AllF.cons (t := 102) rfl (AllF.cons (t := 103) rfl (AllF.cons (t := 104) rfl (AllF.cons (t := 105) rfl (AllF.cons (t := 106) rfl (AllF.cons (t := 107) rfl (AllF.cons (t := 108) rfl (AllF.cons (t := 109) rfl (AllF.cons (t := 110) rfl AllF.nil))))))))))))))))))))))))))))))))))))))))))) ?_
                          refine T.condT rfl rfl ?_
                          refine T.seq ?_
                          refine T.regionL (ll := [0]) rfl ?_
                          refine TO.assign rfl rfl rfl rfl ?_
                          refine TO.done ?_
                          refine X.seq_normal ?_
                          refine T.trim (AllF.cons (t := 2) rfl AllF.nil) ?_
                          refine T.ret ?_
                          refine X.then_ret ?_
                          refine X.block_ret ?_
                          refine X.then_ret ?_
                          have H := loop_exitE H C_1 ▸ K_1
                          refine X.then_ret ?_
                          refine X.block_ret ?_
                          refine X.then_ret ?_
                          obtain rfl := ret1 H
                          exact X.ret1 rfl rfl rfl rfl (Res.tmp rfl) Pick.nil ⟨rfl, rfl⟩
                        ·
                          obtain ⟨g101, H⟩ := gd_some H
                          obtain ⟨g102, H⟩ := gd_some H
                          apply T.drawQT [(63, _), (64, _), (65, _), (66, _), (67, _), (68, _), (69, _), (70, _), (71, _), (72, _), (73, _), (74, _), (75, _), (76, _), (77, _), (78, _), (79, _), (80, _), (81, _), (82, _), (83, _), (84, _), (85, _), (86, _), (87, _), (88, _), (89, _), (90, _), (91, _), (92, _), (93, _), (94, _), (95, _), (96, _), (97, _), (98, _), (99, _), (100, _), (101, _), (102, _), (103, _), (104, _), (105, _), (106, _), (107, _), (108, _)]
                          · exact mixed
                          · kernel_rfl
                          · kernel_rfl
                          · exact rfl
                          · exact rfl
                          · refine ⟨?_, ?_, ?_, ?_, ?_, ?_, ?_, ?_, ?_, ?_, ?_, ?_, ?_, ?_, ?_, ?_, ?_, ?_, ?_, ?_, ?_, ?_, ?_, ?_, ?_, ?_, ?_, ?_, ?_, ?_, ?_, ?_, ?_, ?_, ?_, ?_, ?_, ?_, ?_, ?_, ?_, ?_, ?_, ?_, ?_, ?_, trivial⟩
                            · intro Es
                              refine TO.move rfl rfl rfl rfl ?_
                              exact TO.done (X.ob rfl (Pick.refl _))
                            · intro Es
                              refine TO.bin rfl rfl rfl rfl rfl rfl ?_
                              exact TO.done (X.ob rfl (Pick.refl _))
                            · intro Es
                              refine TO.move rfl rfl rfl rfl ?_
                              refine TO.decB (t := 65) (b' := false) rfl (decide_eq_false g91) ?_
                              exact TO.done (X.ob2 rfl (Pick.refl _))
                            · intro Es
                              refine TO.move rfl rfl rfl rfl ?_
                              exact TO.done (X.ob rfl (Pick.refl _))
                            · intro Es
                              refine TO.loadA rfl rfl rfl rfl TWLCsrPairsa.a33 (List.Mem.tail _ (List.Mem.tail _ (List.Mem.head _))) rfl ?_
                              exact TO.done (X.ob rfl (Pick.refl _))
                            · intro Es
                              refine TO.callX TWLCsrPairsa.c22 rfl rfl rfl rfl (fun wc hwc => w_csr_Len (c0 := r14) wc (hwc.rs (f := (intC .i64)) (s := 1) (xs := r14.First) (j := j20) (fun _ => rfl) (List.Mem.tail _ (List.Mem.tail _ (List.Mem.tail _ (List.Mem.head _)))) hn41 hc42 hz44) (hwc.rs (f := (intC .i64)) (s := 1) (xs := r14.Head) (j := j24) (fun _ => rfl) (List.Mem.tail _ (List.Mem.tail _ (List.Mem.tail _ (List.Mem.tail _ (List.Mem.head _))))) hn45 hc46 hz48) (hwc.rs (f := (intC .i64)) (s := 1) (xs := r14.Rev) (j := j28) (fun _ => rfl) (List.Mem.tail _ (List.Mem.tail _ (List.Mem.tail _ (List.Mem.tail _ (List.Mem.tail _ (List.Mem.head _)))))) hn49 hc50 hz52) (hwc.rs (f := (intC .i64)) (s := 1) (xs := r14.Cap) (j := j32) (fun _ => rfl) (List.Mem.tail _ (List.Mem.tail _ (List.Mem.tail _ (List.Mem.tail _ (List.Mem.tail _ (List.Mem.tail _ (List.Mem.head _))))))) hn53 hc54 hz56) (hwc.rs (f := (intC .i64)) (s := 1) (xs := r14.Arc) (j := j36) (fun _ => rfl) (List.Mem.tail _ (List.Mem.tail _ (List.Mem.tail _ (List.Mem.tail _ (List.Mem.tail _ (List.Mem.tail _ (List.Mem.tail _ (List.Mem.head _)))))))) hn57 hc58 hz60) (hwc.rs (f := boolC) (s := 1) (xs := r14.Back) (j := j40) (fun _ => rfl) (List.Mem.tail _ (List.Mem.tail _ (List.Mem.tail _ (List.Mem.tail _ (List.Mem.tail _ (List.Mem.tail _ (List.Mem.tail _ (List.Mem.tail _ (List.Mem.head _))))))))) hn61 hc62 hz64) e93) ?_
                              rintro _ _ ⟨rfl, rfl⟩
                              exact TO.done (X.ob rfl (Pick.refl _))
                            · intro Es
                              refine TO.bin rfl rfl rfl rfl rfl rfl ?_
                              exact TO.done (X.ob rfl (Pick.refl _))
                            · intro Es
                              refine TO.pickF rfl rfl rfl rfl rfl ?_
                              exact TO.done (X.ob rfl (Pick.refl _))
                            · intro Es
                              refine TO.move rfl rfl rfl rfl ?_
                              refine TO.decB (t := 71) (b' := false) rfl (decide_eq_false g94) ?_
                              exact TO.done (X.ob2 rfl (Pick.refl _))
                            · intro Es
                              refine TO.move rfl rfl rfl rfl ?_
                              exact TO.done (X.ob rfl (Pick.refl _))
                            · intro Es
                              refine TO.move rfl rfl rfl rfl ?_
                              exact TO.done (X.ob rfl (Pick.refl _))
                            · intro Es
                              refine TO.bin rfl rfl rfl rfl rfl rfl ?_
                              exact TO.done (X.ob rfl (Pick.refl _))
                            · intro Es
                              refine TO.pickF rfl rfl rfl rfl rfl ?_
                              exact TO.done (X.ob rfl (Pick.refl _))
                            · intro Es
                              refine TO.move rfl rfl rfl rfl ?_
                              refine TO.decB (t := 76) (b' := false) rfl (decide_eq_false g95) ?_
                              exact TO.done (X.ob2 rfl (Pick.refl _))
                            · intro Es
                              refine TO.fieldAddr0 rfl rfl rfl rfl TWLCsrPairsa.f33_5 ?_
                              exact TO.done (X.ob rfl (Pick.refl _))
                            · intro Es
                              refine TO.load1 rfl rfl rfl rfl TWLCsrPairsa.s30 (List.Mem.tail _ (List.Mem.tail _ (List.Mem.head _))) rfl ?_
                              exact TO.done (X.ob rfl (Pick.refl _))
                            · intro Es
                              refine TO.move rfl rfl rfl rfl ?_
                              exact TO.done (X.ob rfl (Pick.refl _))
                            · intro Es
                              refine TO.ixV hz52 hc50 hn49 g96 rfl rfl rfl rfl rfl TWLCsrPairsa.l30 TWLCsrPairsa.n3 ?_
                              exact TO.done (X.ob rfl (Pick.refl _))
                            · intro Es
                              refine TO.ldIV hz52 hc50 hn49 g96 rfl rfl rfl rfl TWLCsrPairsa.s3 (List.Mem.tail _ (List.Mem.tail _ (List.Mem.tail _ (List.Mem.tail _ (List.Mem.tail _ (List.Mem.head _)))))) ?_
                              exact TO.done (X.ob rfl (Pick.refl _))
                            · intro Es
                              refine TO.move rfl rfl rfl rfl ?_
                              exact TO.done (X.ob rfl (Pick.refl _))
                            · intro Es
                              refine TO.bin rfl rfl rfl rfl rfl rfl ?_
                              exact TO.done (X.ob rfl (Pick.refl _))
                            · intro Es
                              refine TO.pickF rfl rfl rfl rfl rfl ?_
                              exact TO.done (X.ob rfl (Pick.refl _))
                            · intro Es
                              refine TO.move rfl rfl rfl rfl ?_
                              refine TO.decB (t := 85) (b' := false) rfl (decide_eq_false g97) ?_
                              exact TO.done (X.ob2 rfl (Pick.refl _))
                            · intro Es
                              refine TO.fieldAddr0 rfl rfl rfl rfl TWLCsrPairsa.f33_7 ?_
                              exact TO.done (X.ob rfl (Pick.refl _))
                            · intro Es
                              refine TO.load1 rfl rfl rfl rfl TWLCsrPairsa.s30 (List.Mem.tail _ (List.Mem.tail _ (List.Mem.head _))) rfl ?_
                              exact TO.done (X.ob rfl (Pick.refl _))
                            · intro Es
                              refine TO.move rfl rfl rfl rfl ?_
                              exact TO.done (X.ob rfl (Pick.refl _))
                            · intro Es
                              refine TO.ixV hz60 hc58 hn57 g98 rfl rfl rfl rfl rfl TWLCsrPairsa.l30 TWLCsrPairsa.n3 ?_
                              exact TO.done (X.ob rfl (Pick.refl _))
                            · intro Es
                              refine TO.ldIV hz60 hc58 hn57 g98 rfl rfl rfl rfl TWLCsrPairsa.s3 (List.Mem.tail _ (List.Mem.tail _ (List.Mem.tail _ (List.Mem.tail _ (List.Mem.tail _ (List.Mem.tail _ (List.Mem.tail _ (List.Mem.head _)))))))) ?_
                              exact TO.done (X.ob rfl (Pick.refl _))
                            · intro Es
                              refine TO.fieldAddr0 rfl rfl rfl rfl TWLCsrPairsa.f33_7 ?_
                              exact TO.done (X.ob rfl (Pick.refl _))
                            · intro Es
                              refine TO.load1 rfl rfl rfl rfl TWLCsrPairsa.s30 (List.Mem.tail _ (List.Mem.tail _ (List.Mem.head _))) rfl ?_
                              exact TO.done (X.ob rfl (Pick.refl _))
                            · intro Es
                              refine TO.move rfl rfl rfl rfl ?_
                              exact TO.done (X.ob rfl (Pick.refl _))
                            · intro Es
                              refine TO.ixV hz60 hc58 hn57 g99 rfl rfl rfl rfl rfl TWLCsrPairsa.l30 TWLCsrPairsa.n3 ?_
                              exact TO.done (X.ob rfl (Pick.refl _))
                            · intro Es
                              refine TO.ldIV hz60 hc58 hn57 g99 rfl rfl rfl rfl TWLCsrPairsa.s3 (List.Mem.tail _ (List.Mem.tail _ (List.Mem.tail _ (List.Mem.tail _ (List.Mem.tail _ (List.Mem.tail _ (List.Mem.tail _ (List.Mem.head _)))))))) ?_
                              exact TO.done (X.ob rfl (Pick.refl _))
                            · intro Es
                              refine TO.bin rfl rfl rfl rfl rfl rfl ?_
                              exact TO.done (X.ob rfl (Pick.refl _))
                            · intro Es
                              refine TO.pickF rfl rfl rfl rfl rfl ?_
                              exact TO.done (X.ob rfl (Pick.refl _))
                            · intro Es
                              refine TO.move rfl rfl rfl rfl ?_
                              refine TO.decB (t := 98) (b' := false) rfl (decide_eq_false g100) ?_
                              exact TO.done (X.ob2 rfl (Pick.refl _))
                            · intro Es
                              refine TO.fieldAddr0 rfl rfl rfl rfl TWLCsrPairsa.f33_8 ?_
                              exact TO.done (X.ob rfl (Pick.refl _))
                            · intro Es
                              refine TO.load1 rfl rfl rfl rfl TWLCsrPairsa.s31 (List.Mem.tail _ (List.Mem.tail _ (List.Mem.head _))) rfl ?_
                              exact TO.done (X.ob rfl (Pick.refl _))
                            · intro Es
                              refine TO.move rfl rfl rfl rfl ?_
                              exact TO.done (X.ob rfl (Pick.refl _))
                            · intro Es
                              refine TO.ixV hz64 hc62 hn61 g101 rfl rfl rfl rfl rfl TWLCsrPairsa.l31 TWLCsrPairsa.n4 ?_
                              exact TO.done (X.ob rfl (Pick.refl _))
                            · intro Es
                              refine TO.ldBV hz64 hc62 hn61 g101 rfl rfl rfl rfl TWLCsrPairsa.s4 (List.Mem.tail _ (List.Mem.tail _ (List.Mem.tail _ (List.Mem.tail _ (List.Mem.tail _ (List.Mem.tail _ (List.Mem.tail _ (List.Mem.tail _ (List.Mem.head _))))))))) ?_
                              exact TO.done (X.ob rfl (Pick.refl _))
                            · intro Es
                              refine TO.fieldAddr0 rfl rfl rfl rfl TWLCsrPairsa.f33_8 ?_
                              exact TO.done (X.ob rfl (Pick.refl _))
                            · intro Es
                              refine TO.load1 rfl rfl rfl rfl TWLCsrPairsa.s31 (List.Mem.tail _ (List.Mem.tail _ (List.Mem.head _))) rfl ?_
                              exact TO.done (X.ob rfl (Pick.refl _))
                            · intro Es
                              refine TO.move rfl rfl rfl rfl ?_
                              exact TO.done (X.ob rfl (Pick.refl _))
                            · intro Es
                              refine TO.ixV hz64 hc62 hn61 g102 rfl rfl rfl rfl rfl TWLCsrPairsa.l31 TWLCsrPairsa.n4 ?_
                              exact TO.done (X.ob rfl (Pick.refl _))
                            · intro Es
                              refine TO.ldBV hz64 hc62 hn61 g102 rfl rfl rfl rfl TWLCsrPairsa.s4 (List.Mem.tail _ (List.Mem.tail _ (List.Mem.tail _ (List.Mem.tail _ (List.Mem.tail _ (List.Mem.tail _ (List.Mem.tail _ (List.Mem.tail _ (List.Mem.head _))))))))) ?_
                              exact TO.done (X.ob rfl (Pick.refl _))
                          refine TO.eqb rfl rfl rfl rfl rfl TWLCsrPairsa.u4 ?_
                          refine TO.pickF rfl rfl rfl rfl rfl ?_
                          refine TO.done ?_
                          refine X.seq_normal ?_
                          refine T.trim (AllF.cons (t := 1) rfl (AllF.cons (t := 3) rfl (AllF.cons (t := 54) rfl (AllF.cons (t := 55) rfl (AllF.cons (t := 5) rfl (AllF.cons (t := 6) rfl (AllF.cons (t := 66) rfl (AllF.cons (t := 67) rfl (AllF.cons (t := 68) rfl (AllF.cons (t := 69) rfl (AllF.cons (t := 72) rfl (AllF.cons (t := 73) rfl (AllF.cons (t := 74) rfl (AllF.cons (t := 77) rfl (AllF.cons (t := 78) rfl (AllF.cons (t := 79) rfl (AllF.cons (t := 80) rfl (AllF.cons (t := 81) rfl (AllF.cons (t := 82) rfl (AllF.cons (t := 83) rfl (AllF.cons (t := 86) rfl (AllF.cons (t := 87) rfl (AllF.cons (t := 88) rfl (AllF.cons (t := 89) rfl (AllF.cons (t := 90) rfl (AllF.cons (t := 91) rfl (AllF.cons (t := 92) rfl (AllF.cons (t := 93) rfl (AllF.cons (t := 94) rfl (AllF.cons (t := 95) rfl (AllF.cons (t := 96) rfl (AllF.cons (t := 99) rfl (AllF.cons (t := 100) rfl (AllF.cons (t := 101) rfl (AllF.cons (t := 102) rfl (AllF.cons (t := 103) rfl (AllF.cons (t := 104) rfl (AllF.cons (t := 105) rfl (AllF.cons (t := 106) rfl (AllF.cons (t := 107) rfl (AllF.cons (t := 108) rfl (AllF.cons (t := 109) rfl (AllF.cons (t := 110) rfl AllF.nil))))))))))))))))))))))))))))))))))))))))))) ?_
                          rcases ite_some H with ⟨g103, H⟩ | ⟨g103, H⟩
                          ·
                            refine T.condT rfl g103 ?_
                            refine T.seq ?_
                            refine T.regionL (ll := [0]) rfl ?_
                            refine TO.assign rfl rfl rfl rfl ?_
                            refine TO.done ?_
                            refine X.seq_normal ?_
                            refine T.trim (AllF.cons (t := 2) rfl AllF.nil) ?_
                            refine T.ret ?_
                            refine X.then_ret ?_
                            refine X.block_ret ?_
                            refine X.then_ret ?_
                            have H := loop_exitE H C_1 ▸ K_1
                            refine X.then_ret ?_
                            refine X.block_ret ?_
                            refine X.then_ret ?_
                            obtain rfl := ret1 H
                            exact X.ret1 rfl rfl rfl rfl (Res.tmp rfl) Pick.nil ⟨rfl, rfl⟩
                          ·
                            refine T.condF rfl (Bool.eq_false_iff.2 g103) ?_
                            refine T.skip ?_
                            refine X.seq_normal ?_
                            refine T.seq ?_
                            obtain ⟨⟨r104, r105⟩, e106, H⟩ := bd_some H
                            refine T.regionL (ll := [0, 1, 2, 3, 4, 5, 6, 7]) rfl ?_
                            refine TO.loadA rfl rfl rfl rfl TWLCsrPairsa.a33 (List.Mem.tail _ (List.Mem.tail _ (List.Mem.head _))) rfl ?_
                            refine TO.move rfl rfl rfl rfl ?_
                            refine TO.callX TWLCsrPairsa.c26 rfl rfl rfl rfl (fun wc hwc => w_csr_Tail (c0 := r14) (a1 := x88) wc (hwc.rs (f := (intC .i64)) (s := 1) (xs := r14.First) (j := j20) (fun _ => rfl) (List.Mem.tail _ (List.Mem.tail _ (List.Mem.tail _ (List.Mem.head _)))) hn41 hc42 hz44) (hwc.rs (f := (intC .i64)) (s := 1) (xs := r14.Head) (j := j24) (fun _ => rfl) (List.Mem.tail _ (List.Mem.tail _ (List.Mem.tail _ (List.Mem.tail _ (List.Mem.head _))))) hn45 hc46 hz48) (hwc.rs (f := (intC .i64)) (s := 1) (xs := r14.Rev) (j := j28) (fun _ => rfl) (List.Mem.tail _ (List.Mem.tail _ (List.Mem.tail _ (List.Mem.tail _ (List.Mem.tail _ (List.Mem.head _)))))) hn49 hc50 hz52) (hwc.rs (f := (intC .i64)) (s := 1) (xs := r14.Cap) (j := j32) (fun _ => rfl) (List.Mem.tail _ (List.Mem.tail _ (List.Mem.tail _ (List.Mem.tail _ (List.Mem.tail _ (List.Mem.tail _ (List.Mem.head _))))))) hn53 hc54 hz56) (hwc.rs (f := (intC .i64)) (s := 1) (xs := r14.Arc) (j := j36) (fun _ => rfl) (List.Mem.tail _ (List.Mem.tail _ (List.Mem.tail _ (List.Mem.tail _ (List.Mem.tail _ (List.Mem.tail _ (List.Mem.tail _ (List.Mem.head _)))))))) hn57 hc58 hz60) (hwc.rs (f := boolC) (s := 1) (xs := r14.Back) (j := j40) (fun _ => rfl) (List.Mem.tail _ (List.Mem.tail _ (List.Mem.tail _ (List.Mem.tail _ (List.Mem.tail _ (List.Mem.tail _ (List.Mem.tail _ (List.Mem.tail _ (List.Mem.head _))))))))) hn61 hc62 hz64) e106) ?_
                            rintro _ _ ⟨rfl, rfl⟩
                            refine TO.move rfl rfl rfl rfl ?_
                            refine TO.extract rfl rfl rfl rfl rfl ?_
                            refine TO.extract rfl rfl rfl rfl rfl ?_
                            refine TO.assign rfl rfl rfl rfl ?_
                            refine TO.assign rfl rfl rfl rfl ?_
                            refine TO.done ?_
                            refine X.seq_normal ?_
                            refine T.seq ?_
                            obtain ⟨⟨r107, r108⟩, e109, H⟩ := bd_some H
                            refine T.regionL (ll := [0, 1, 2, 3, 4, 5, 6, 7]) rfl ?_
                            refine TO.loadA rfl rfl rfl rfl TWLCsrPairsa.a33 (List.Mem.tail _ (List.Mem.tail _ (List.Mem.head _))) rfl ?_
                            refine TO.move rfl rfl rfl rfl ?_
                            refine TO.callX TWLCsrPairsa.c26 rfl rfl rfl rfl (fun wc hwc => w_csr_Tail (c0 := r14) (a1 := (r14.Rev.getD x88.toNat 0)) wc (hwc.rs (f := (intC .i64)) (s := 1) (xs := r14.First) (j := j20) (fun _ => rfl) (List.Mem.tail _ (List.Mem.tail _ (List.Mem.tail _ (List.Mem.head _)))) hn41 hc42 hz44) (hwc.rs (f := (intC .i64)) (s := 1) (xs := r14.Head) (j := j24) (fun _ => rfl) (List.Mem.tail _ (List.Mem.tail _ (List.Mem.tail _ (List.Mem.tail _ (List.Mem.head _))))) hn45 hc46 hz48) (hwc.rs (f := (intC .i64)) (s := 1) (xs := r14.Rev) (j := j28) (fun _ => rfl) (List.Mem.tail _ (List.Mem.tail _ (List.Mem.tail _ (List.Mem.tail _ (List.Mem.tail _ (List.Mem.head _)))))) hn49 hc50 hz52) (hwc.rs (f := (intC .i64)) (s := 1) (xs := r14.Cap) (j := j32) (fun _ => rfl) (List.Mem.tail _ (List.Mem.tail _ (List.Mem.tail _ (List.Mem.tail _ (List.Mem.tail _ (List.Mem.tail _ (List.Mem.head _))))))) hn53 hc54 hz56) (hwc.rs (f := (intC .i64)) (s := 1) (xs := r14.Arc) (j := j36) (fun _ => rfl) (List.Mem.tail _ (List.Mem.tail _ (List.Mem.tail _ (List.Mem.tail _ (List.Mem.tail _ (List.Mem.tail _ (List.Mem.tail _ (List.Mem.head _)))))))) hn57 hc58 hz60) (hwc.rs (f := boolC) (s := 1) (xs := r14.Back) (j := j40) (fun _ => rfl) (List.Mem.tail _ (List.Mem.tail _ (List.Mem.tail _ (List.Mem.tail _ (List.Mem.tail _ (List.Mem.tail _ (List.Mem.tail _ (List.Mem.tail _ (List.Mem.head _))))))))) hn61 hc62 hz64) e109) ?_
                            rintro _ _ ⟨rfl, rfl⟩
                            refine TO.move rfl rfl rfl rfl ?_
                            refine TO.extract rfl rfl rfl rfl rfl ?_
                            refine TO.extract rfl rfl rfl rfl rfl ?_
                            refine TO.assign rfl rfl rfl rfl ?_
                            refine TO.assign rfl rfl rfl rfl ?_
                            refine TO.done ?_
                            refine X.seq_normal ?_
                            refine T.trim (AllF.cons (t := 1) rfl (AllF.cons (t := 3) rfl (AllF.cons (t := 54) rfl (AllF.cons (t := 55) rfl (AllF.cons (t := 5) rfl (AllF.cons (t := 6) rfl (AllF.cons (t := 66) rfl (AllF.cons (t := 67) rfl (AllF.cons (t := 68) rfl (AllF.cons (t := 69) rfl (AllF.cons (t := 72) rfl (AllF.cons (t := 73) rfl (AllF.cons (t := 74) rfl (AllF.cons (t := 77) rfl (AllF.cons (t := 78) rfl (AllF.cons (t := 79) rfl (AllF.cons (t := 80) rfl (AllF.cons (t := 81) rfl (AllF.cons (t := 82) rfl (AllF.cons (t := 83) rfl (AllF.cons (t := 86) rfl (AllF.cons (t := 87) rfl (AllF.cons (t := 88) rfl (AllF.cons (t := 89) rfl (AllF.cons (t := 90) rfl (AllF.cons (t := 91) rfl (AllF.cons (t := 92) rfl (AllF.cons (t := 93) rfl (AllF.cons (t := 94) rfl (AllF.cons (t := 95) rfl (AllF.cons (t := 96) rfl (AllF.cons (t := 99) rfl (AllF.cons (t := 100) rfl (AllF.cons (t := 101) rfl (AllF.cons (t := 102) rfl (AllF.cons (t := 103) rfl (AllF.cons (t := 104) rfl (AllF.cons (t := 105) rfl (AllF.cons (t := 106) rfl (AllF.cons (t := 107) rfl (AllF.cons (t := 108) rfl (AllF.cons (t := 109) rfl (AllF.cons (t := 7) rfl (AllF.cons (t := 8) rfl (AllF.cons (t := 9) rfl (AllF.cons (t := 10) rfl AllF.nil)))))))))))))))))))))))))))))))))))))))))))))) ?_
                            refine T.seq ?_
                            refine T.seq ?_
                            rcases ite_some H with ⟨g110, H⟩ | ⟨g110, H⟩
                            ·
                              refine T.regionL (ll := [0, 1, 2, 3, 4, 5, 6, 7, 8, 9, 10, 11, 12, 13, 14, 15, 16, 17, 18, 19, 20, 21, 22, 23]) rfl ?_
                              refine TO.move rfl rfl rfl rfl ?_
                              refine TO.not rfl rfl rfl rfl ?_
                              refine TO.move rfl rfl rfl rfl ?_
                              refine TO.decB (t := 125) (b' := true) rfl g110 ?_
                              refine TO.shut rfl rfl rfl rfl ?_
                              refine TO.shut rfl rfl rfl rfl ?_
                              refine TO.pickT rfl rfl rfl rfl rfl ?_
                              refine TO.move rfl rfl rfl rfl ?_
                              refine TO.shut rfl rfl rfl rfl ?_
                              refine TO.shut rfl rfl rfl rfl ?_
                              refine TO.shut rfl rfl rfl rfl ?_
                              refine TO.shut rfl rfl rfl rfl ?_
                              refine TO.shut rfl rfl rfl rfl ?_
                              refine TO.shut rfl rfl rfl rfl ?_
                              refine TO.shut rfl rfl rfl rfl ?_
                              refine TO.pickT rfl rfl rfl rfl rfl ?_
                              refine TO.move rfl rfl rfl rfl ?_
                              refine TO.shut rfl rfl rfl rfl ?_
                              refine TO.shut rfl rfl rfl rfl ?_
                              refine TO.shut rfl rfl rfl rfl ?_
                              refine TO.shut rfl rfl rfl rfl ?_
                              refine TO.shut rfl rfl rfl rfl ?_
                              refine TO.shut rfl rfl rfl rfl ?_
                              refine TO.shut rfl rfl rfl rfl ?_
                              refine TO.pickT rfl rfl rfl rfl rfl ?_
                              refine TO.done ?_
                              refine X.seq_normal ?_
                              refine T.trim (AllF.cons (t := 1) rfl (AllF.cons (t := 3) rfl (AllF.cons (t := 54) rfl (AllF.cons (t := 55) rfl (AllF.cons (t := 5) rfl (AllF.cons (t := 66) rfl (AllF.cons (t := 67) rfl (AllF.cons (t := 68) rfl (AllF.cons (t := 69) rfl (AllF.cons (t := 72) rfl (AllF.cons (t := 73) rfl (AllF.cons (t := 74) rfl (AllF.cons (t := 77) rfl (AllF.cons (t := 78) rfl (AllF.cons (t := 79) rfl (AllF.cons (t := 80) rfl (AllF.cons (t := 81) rfl (AllF.cons (t := 82) rfl (AllF.cons (t := 83) rfl (AllF.cons (t := 86) rfl (AllF.cons (t := 87) rfl (AllF.cons (t := 88) rfl (AllF.cons (t := 89) rfl (AllF.cons (t := 90) rfl (AllF.cons (t := 91) rfl (AllF.cons (t := 92) rfl (AllF.cons (t := 93) rfl (AllF.cons (t := 94) rfl (AllF.cons (t := 95) rfl (AllF.cons (t := 96) rfl (AllF.cons (t := 99) rfl (AllF.cons (t := 100) rfl (AllF.cons (t := 101) rfl (AllF.cons (t := 102) rfl (AllF.cons (t := 103) rfl (AllF.cons (t := 104) rfl (AllF.cons (t := 105) rfl (AllF.cons (t := 106) rfl (AllF.cons (t := 107) rfl (AllF.cons (t := 108) rfl (AllF.cons (t := 109) rfl (AllF.cons (t := 7) rfl (AllF.cons (t := 9) rfl (AllF.cons (t := 126) rfl (AllF.cons (t := 127) rfl (AllF.cons (t := 130) rfl (AllF.cons (t := 131) rfl (AllF.cons (t := 132) rfl (AllF.cons (t := 133) rfl (AllF.cons (t := 134) rfl (AllF.cons (t := 135) rfl (AllF.cons (t := 136) rfl (AllF.cons (t := 139) rfl (AllF.cons (t := 140) rfl (AllF.cons (t := 141) rfl (AllF.cons (t := 142) rfl (AllF.cons (t := 143) rfl (AllF.cons (t := 144) rfl (AllF.cons (t := 145) rfl (AllF.cons (t := 146) rfl AllF.nil)))))))))))))))))))))))))))))))))))))))))))))))))))))))))))) ?_
                              refine T.condT rfl rfl ?_
                              refine T.seq ?_
                              refine T.regionL (ll := [0]) rfl ?_
                              refine TO.assign rfl rfl rfl rfl ?_
                              refine TO.done ?_
                              refine X.seq_normal ?_
                              refine T.trim (AllF.cons (t := 2) rfl AllF.nil) ?_
                              refine T.ret ?_
                              refine X.then_ret ?_
                              refine X.block_ret ?_
                              refine X.then_ret ?_
                              have H := loop_exitE H C_1 ▸ K_1
                              refine X.then_ret ?_
                              refine X.block_ret ?_
                              refine X.then_ret ?_
                              obtain rfl := ret1 H
                              exact X.ret1 rfl rfl rfl rfl (Res.tmp rfl) Pick.nil ⟨rfl, rfl⟩
                            ·
                              rcases ite_some H with ⟨g111, H⟩ | ⟨g111, H⟩
                              ·
                                refine T.regionL (ll := [0, 1, 2, 3, 4, 5, 6, 7, 8, 9, 10, 11, 12, 13, 14, 15, 16, 17, 18, 19, 20, 21, 22, 23]) rfl ?_
                                refine TO.move rfl rfl rfl rfl ?_
                                refine TO.not rfl rfl rfl rfl ?_
                                refine TO.move rfl rfl rfl rfl ?_
                                refine TO.decB (t := 125) (b' := false) rfl (Bool.eq_false_iff.2 g110) ?_
                                refine TO.move rfl rfl rfl rfl ?_
                                refine TO.not rfl rfl rfl rfl ?_
                                refine TO.pickF rfl rfl rfl rfl rfl ?_
                                refine TO.move rfl rfl rfl rfl ?_
                                refine TO.decB (t := 129) (b' := true) rfl g111 ?_
                                refine TO.shut rfl rfl rfl rfl ?_
                                refine TO.shut rfl rfl rfl rfl ?_
                                refine TO.shut rfl rfl rfl rfl ?_
                                refine TO.shut rfl rfl rfl rfl ?_
                                refine TO.shut rfl rfl rfl rfl ?_
                                refine TO.shut rfl rfl rfl rfl ?_
                                refine TO.shut rfl rfl rfl rfl ?_
                                refine TO.pickT rfl rfl rfl rfl rfl ?_
                                refine TO.move rfl rfl rfl rfl ?_
                                refine TO.shut rfl rfl rfl rfl ?_
                                refine TO.shut rfl rfl rfl rfl ?_
                                refine TO.shut rfl rfl rfl rfl ?_
                                refine TO.shut rfl rfl rfl rfl ?_
                                refine TO.shut rfl rfl rfl rfl ?_
                                refine TO.shut rfl rfl rfl rfl ?_
                                refine TO.shut rfl rfl rfl rfl ?_
                                refine TO.pickT rfl rfl rfl rfl rfl ?_
                                refine TO.done ?_
                                refine X.seq_normal ?_
                                refine T.trim (AllF.cons (t := 1) rfl (AllF.cons (t := 3) rfl (AllF.cons (t := 54) rfl (AllF.cons (t := 55) rfl (AllF.cons (t := 5) rfl (AllF.cons (t := 66) rfl (AllF.cons (t := 67) rfl (AllF.cons (t := 68) rfl (AllF.cons (t := 69) rfl (AllF.cons (t := 72) rfl (AllF.cons (t := 73) rfl (AllF.cons (t := 74) rfl (AllF.cons (t := 77) rfl (AllF.cons (t := 78) rfl (AllF.cons (t := 79) rfl (AllF.cons (t := 80) rfl (AllF.cons (t := 81) rfl (AllF.cons (t := 82) rfl (AllF.cons (t := 83) rfl (AllF.cons (t := 86) rfl (AllF.cons (t := 87) rfl (AllF.cons (t := 88) rfl (AllF.cons (t := 89) rfl (AllF.cons (t := 90) rfl (AllF.cons (t := 91) rfl (AllF.cons (t := 92) rfl (AllF.cons (t := 93) rfl (AllF.cons (t := 94) rfl (AllF.cons (t := 95) rfl (AllF.cons (t := 96) rfl (AllF.cons (t := 99) rfl (AllF.cons (t := 100) rfl (AllF.cons (t := 101) rfl (AllF.cons (t := 102) rfl (AllF.cons (t := 103) rfl (AllF.cons (t := 104) rfl (AllF.cons (t := 105) rfl (AllF.cons (t := 106) rfl (AllF.cons (t := 107) rfl (AllF.cons (t := 108) rfl (AllF.cons (t := 109) rfl (AllF.cons (t := 7) rfl (AllF.cons (t := 9) rfl (AllF.cons (t := 126) rfl (AllF.cons (t := 127) rfl (AllF.cons (t := 130) rfl (AllF.cons (t := 131) rfl (AllF.cons (t := 132) rfl (AllF.cons (t := 133) rfl (AllF.cons (t := 134) rfl (AllF.cons (t := 135) rfl (AllF.cons (t := 136) rfl (AllF.cons (t := 139) rfl (AllF.cons (t := 140) rfl (AllF.cons (t := 141) rfl (AllF.cons (t := 142) rfl (AllF.cons (t := 143) rfl (AllF.cons (t := 144) rfl (AllF.cons (t := 145) rfl (AllF.cons (t := 146) rfl AllF.nil)))))))))))))))))))))))))))))))))))))))))))))))))))))))))))) ?_
                                refine T.condT rfl rfl ?_
                                refine T.seq ?_
                                refine T.regionL (ll := [0]) rfl ?_
                                refine TO.assign rfl rfl rfl rfl ?_
                                refine TO.done ?_
                                refine X.seq_normal ?_
                                refine T.trim (AllF.cons (t := 2) rfl AllF.nil) ?_
                                refine T.ret ?_
                                refine X.then_ret ?_
                                refine X.block_ret ?_
                                refine X.then_ret ?_
                                have H := loop_exitE H C_1 ▸ K_1
                                refine X.then_ret ?_
                                refine X.block_ret ?_
                                refine X.then_ret ?_
                                obtain rfl := ret1 H
                                exact X.ret1 rfl rfl rfl rfl (Res.tmp rfl) Pick.nil ⟨rfl, rfl⟩
                              ·
                                obtain ⟨g112, H⟩ := gd_some H
                                rcases ite_some H with ⟨g113, H⟩ | ⟨g113, H⟩
                                ·
                                  refine T.regionL (ll := [0, 1, 2, 3, 4, 5, 6, 7, 8, 9, 10, 11, 12, 13, 14, 15, 16, 17, 18, 19, 20, 21, 22, 23]) rfl ?_
                                  refine TO.move rfl rfl rfl rfl ?_
                                  refine TO.not rfl rfl rfl rfl ?_
                                  refine TO.move rfl rfl rfl rfl ?_
                                  refine TO.decB (t := 125) (b' := false) rfl (Bool.eq_false_iff.2 g110) ?_
                                  refine TO.move rfl rfl rfl rfl ?_
                                  refine TO.not rfl rfl rfl rfl ?_
                                  refine TO.pickF rfl rfl rfl rfl rfl ?_
                                  refine TO.move rfl rfl rfl rfl ?_
                                  refine TO.decB (t := 129) (b' := false) rfl (Bool.eq_false_iff.2 g111) ?_
                                  refine TO.fieldAddr0 rfl rfl rfl rfl TWLCsrPairsa.f33_4 ?_
                                  refine TO.load1 rfl rfl rfl rfl TWLCsrPairsa.s30 (List.Mem.tail _ (List.Mem.tail _ (List.Mem.head _))) rfl ?_
                                  refine TO.move rfl rfl rfl rfl ?_
                                  refine TO.ixV hz48 hc46 hn45 g112 rfl rfl rfl rfl rfl TWLCsrPairsa.l30 TWLCsrPairsa.n3 ?_
                                  refine TO.ldIV hz48 hc46 hn45 g112 rfl rfl rfl rfl TWLCsrPairsa.s3 (List.Mem.tail _ (List.Mem.tail _ (List.Mem.tail _ (List.Mem.tail _ (List.Mem.head _))))) ?_
                                  refine TO.move rfl rfl rfl rfl ?_
                                  refine TO.bin rfl rfl rfl rfl rfl rfl ?_
                                  refine TO.pickF rfl rfl rfl rfl rfl ?_
                                  refine TO.move rfl rfl rfl rfl ?_
                                  refine TO.decB (t := 138) (b' := true) rfl (decide_eq_true g113) ?_
                                  refine TO.shut rfl rfl rfl rfl ?_
                                  refine TO.shut rfl rfl rfl rfl ?_
                                  refine TO.shut rfl rfl rfl rfl ?_
                                  refine TO.shut rfl rfl rfl rfl ?_
                                  refine TO.shut rfl rfl rfl rfl ?_
                                  refine TO.shut rfl rfl rfl rfl ?_
                                  refine TO.shut rfl rfl rfl rfl ?_
                                  refine TO.pickT rfl rfl rfl rfl rfl ?_
                                  refine TO.done ?_
                                  refine X.seq_normal ?_
                                  refine T.trim (AllF.cons (t := 1) rfl (AllF.cons (t := 3) rfl (AllF.cons (t := 54) rfl (AllF.cons (t := 55) rfl (AllF.cons (t := 5) rfl (AllF.cons (t := 66) rfl (AllF.cons (t := 67) rfl (AllF.cons (t := 68) rfl (AllF.cons (t := 69) rfl (AllF.cons (t := 72) rfl (AllF.cons (t := 73) rfl (AllF.cons (t := 74) rfl (AllF.cons (t := 77) rfl (AllF.cons (t := 78) rfl (AllF.cons (t := 79) rfl (AllF.cons (t := 80) rfl (AllF.cons (t := 81) rfl (AllF.cons (t := 82) rfl (AllF.cons (t := 83) rfl (AllF.cons (t := 86) rfl (AllF.cons (t := 87) rfl (AllF.cons (t := 88) rfl (AllF.cons (t := 89) rfl (AllF.cons (t := 90) rfl (AllF.cons (t := 91) rfl (AllF.cons (t := 92) rfl (AllF.cons (t := 93) rfl (AllF.cons (t := 94) rfl (AllF.cons (t := 95) rfl (AllF.cons (t := 96) rfl (AllF.cons (t := 99) rfl (AllF.cons (t := 100) rfl (AllF.cons (t := 101) rfl (AllF.cons (t := 102) rfl (AllF.cons (t := 103) rfl (AllF.cons (t := 104) rfl (AllF.cons (t := 105) rfl (AllF.cons (t := 106) rfl (AllF.cons (t := 107) rfl (AllF.cons (t := 108) rfl (AllF.cons (t := 109) rfl (AllF.cons (t := 7) rfl (AllF.cons (t := 9) rfl (AllF.cons (t := 126) rfl (AllF.cons (t := 127) rfl (AllF.cons (t := 130) rfl (AllF.cons (t := 131) rfl (AllF.cons (t := 132) rfl (AllF.cons (t := 133) rfl (AllF.cons (t := 134) rfl (AllF.cons (t := 135) rfl (AllF.cons (t := 136) rfl (AllF.cons (t := 139) rfl (AllF.cons (t := 140) rfl (AllF.cons (t := 141) rfl (AllF.cons (t := 142) rfl (AllF.cons (t := 143) rfl (AllF.cons (t := 144) rfl (AllF.cons (t := 145) rfl (AllF.cons (t := 146) rfl AllF.nil)))))))))))))))))))))))))))))))))))))))))))))))))))))))))))) ?_
                                  refine T.condT rfl rfl ?_
                                  refine T.seq ?_
                                  refine T.regionL (ll := [0]) rfl ?_
                                  refine TO.assign rfl rfl rfl rfl ?_
                                  refine TO.done ?_
                                  refine X.seq_normal ?_
                                  refine T.trim (AllF.cons (t := 2) rfl AllF.nil) ?_
                                  refine T.ret ?_
                                  refine X.then_ret ?_
                                  refine X.block_ret ?_
                                  refine X.then_ret ?_
                                  have H := loop_exitE H C_1 ▸ K_1
                                  refine X.then_ret ?_
                                  refine X.block_ret ?_
                                  refine X.then_ret ?_
                                  obtain rfl := ret1 H
                                  exact X.ret1 rfl rfl rfl rfl (Res.tmp rfl) Pick.nil ⟨rfl, rfl⟩
                                ·
                                  obtain ⟨g114, H⟩ := gd_some H
                                  refine T.regionL (ll := [0, 1, 2, 3, 4, 5, 6, 7, 8, 9, 10, 11, 12, 13, 14, 15, 16, 17, 18, 19, 20, 21, 22, 23]) rfl ?_
                                  refine TO.move rfl rfl rfl rfl ?_
                                  refine TO.not rfl rfl rfl rfl ?_
                                  refine TO.move rfl rfl rfl rfl ?_
                                  refine TO.decB (t := 125) (b' := false) rfl (Bool.eq_false_iff.2 g110) ?_
                                  refine TO.move rfl rfl rfl rfl ?_
                                  refine TO.not rfl rfl rfl rfl ?_
                                  refine TO.pickF rfl rfl rfl rfl rfl ?_
                                  refine TO.move rfl rfl rfl rfl ?_
                                  refine TO.decB (t := 129) (b' := false) rfl (Bool.eq_false_iff.2 g111) ?_
                                  refine TO.fieldAddr0 rfl rfl rfl rfl TWLCsrPairsa.f33_4 ?_
                                  refine TO.load1 rfl rfl rfl rfl TWLCsrPairsa.s30 (List.Mem.tail _ (List.Mem.tail _ (List.Mem.head _))) rfl ?_
                                  refine TO.move rfl rfl rfl rfl ?_
                                  refine TO.ixV hz48 hc46 hn45 g112 rfl rfl rfl rfl rfl TWLCsrPairsa.l30 TWLCsrPairsa.n3 ?_
                                  refine TO.ldIV hz48 hc46 hn45 g112 rfl rfl rfl rfl TWLCsrPairsa.s3 (List.Mem.tail _ (List.Mem.tail _ (List.Mem.tail _ (List.Mem.tail _ (List.Mem.head _))))) ?_
                                  refine TO.move rfl rfl rfl rfl ?_
                                  refine TO.bin rfl rfl rfl rfl rfl rfl ?_
                                  refine TO.pickF rfl rfl rfl rfl rfl ?_
                                  refine TO.move rfl rfl rfl rfl ?_
                                  refine TO.decB (t := 138) (b' := false) rfl (decide_eq_false g113) ?_
                                  refine TO.fieldAddr0 rfl rfl rfl rfl TWLCsrPairsa.f33_4 ?_
                                  refine TO.load1 rfl rfl rfl rfl TWLCsrPairsa.s30 (List.Mem.tail _ (List.Mem.tail _ (List.Mem.head _))) rfl ?_
                                  refine TO.move rfl rfl rfl rfl ?_
                                  refine TO.ixV hz48 hc46 hn45 g114 rfl rfl rfl rfl rfl TWLCsrPairsa.l30 TWLCsrPairsa.n3 ?_
                                  refine TO.ldIV hz48 hc46 hn45 g114 rfl rfl rfl rfl TWLCsrPairsa.s3 (List.Mem.tail _ (List.Mem.tail _ (List.Mem.tail _ (List.Mem.tail _ (List.Mem.head _))))) ?_
                                  refine TO.move rfl rfl rfl rfl ?_
                                  refine TO.bin rfl rfl rfl rfl rfl rfl ?_
                                  refine TO.pickF rfl rfl rfl rfl rfl ?_
                                  refine TO.done ?_
                                  refine X.seq_normal ?_
                                  refine T.trim (AllF.cons (t := 1) rfl (AllF.cons (t := 3) rfl (AllF.cons (t := 54) rfl (AllF.cons (t := 55) rfl (AllF.cons (t := 5) rfl (AllF.cons (t := 66) rfl (AllF.cons (t := 67) rfl (AllF.cons (t := 68) rfl (AllF.cons (t := 69) rfl (AllF.cons (t := 72) rfl (AllF.cons (t := 73) rfl (AllF.cons (t := 74) rfl (AllF.cons (t := 77) rfl (AllF.cons (t := 78) rfl (AllF.cons (t := 79) rfl (AllF.cons (t := 80) rfl (AllF.cons (t := 81) rfl (AllF.cons (t := 82) rfl (AllF.cons (t := 83) rfl (AllF.cons (t := 86) rfl (AllF.cons (t := 87) rfl (AllF.cons (t := 88) rfl (AllF.cons (t := 89) rfl (AllF.cons (t := 90) rfl (AllF.cons (t := 91) rfl (AllF.cons (t := 92) rfl (AllF.cons (t := 93) rfl (AllF.cons (t := 94) rfl (AllF.cons (t := 95) rfl (AllF.cons (t := 96) rfl (AllF.cons (t := 99) rfl (AllF.cons (t := 100) rfl (AllF.cons (t := 101) rfl (AllF.cons (t := 102) rfl (AllF.cons (t := 103) rfl (AllF.cons (t := 104) rfl (AllF.cons (t := 105) rfl (AllF.cons (t := 106) rfl (AllF.cons (t := 107) rfl (AllF.cons (t := 108) rfl (AllF.cons (t := 109) rfl (AllF.cons (t := 7) rfl (AllF.cons (t := 9) rfl (AllF.cons (t := 126) rfl (AllF.cons (t := 127) rfl (AllF.cons (t := 130) rfl (AllF.cons (t := 131) rfl (AllF.cons (t := 132) rfl (AllF.cons (t := 133) rfl (AllF.cons (t := 134) rfl (AllF.cons (t := 135) rfl (AllF.cons (t := 136) rfl (AllF.cons (t := 139) rfl (AllF.cons (t := 140) rfl (AllF.cons (t := 141) rfl (AllF.cons (t := 142) rfl (AllF.cons (t := 143) rfl (AllF.cons (t := 144) rfl (AllF.cons (t := 145) rfl (AllF.cons (t := 146) rfl AllF.nil)))))))))))))))))))))))))))))))))))))))))))))))))))))))))))) ?_
                                  rcases ite_some H with ⟨g115, H⟩ | ⟨g115, H⟩
                                  ·
                                    refine T.condPT rfl g115 ?_
                                    refine T.seq ?_
                                    refine T.regionL (ll := [0]) rfl ?_
                                    refine TO.assign rfl rfl rfl rfl ?_
                                    refine TO.done ?_
                                    refine X.seq_normal ?_
                                    refine T.trim (AllF.cons (t := 2) rfl AllF.nil) ?_
                                    refine T.ret ?_
                                    refine X.then_ret ?_
                                    refine X.block_ret ?_
                                    refine X.then_ret ?_
                                    have H := loop_exitE H C_1 ▸ K_1
                                    refine X.then_ret ?_
                                    refine X.block_ret ?_
                                    refine X.then_ret ?_
                                    obtain rfl := ret1 H
                                    exact X.ret1 rfl rfl rfl rfl (Res.tmp rfl) Pick.nil ⟨rfl, rfl⟩
                                  ·
                                    refine T.condPF rfl g115 ?_
                                    refine T.skip ?_
                                    refine X.seq_normal ?_
                                    refine T.seq ?_
                                    obtain ⟨g116, H⟩ := gd_some H
                                    obtain ⟨g117, H⟩ := gd_some H
                                    apply T.drawL [⟨[], false, relV _⟩, ⟨[0], false, relV _⟩, ⟨[], false, relV _⟩, ⟨[2], false, relV _⟩, ⟨[], false, relV _⟩, ⟨[3, 4], false, relV _⟩, ⟨[3, 4, 5], false, relV _⟩, ⟨[1, 6], false, relV _⟩, ⟨[1, 6, 7], false, relV _⟩, ⟨[], false, fun _ v e => ∃ (b118 : Nat), v = .pointer (some ⟨b118, 0, none⟩) ∧ e = [(some b118, .cells #[.int .i64 0, .int .i64 0, .int .i64 0] 28 (0, 0))]⟩] [147, 148, 149, 150, 151, 152, 153, 154, 155, 11] 10 (HRk [[]]) [[]] [] [(some b1, .cells #[.int .i64 r3.N, .int .i64 r3.S, .int .i64 r3.T, .slice (sb ob5) n6 c7] 24 (0, 0)), (ob5, .cells (arr arcC r3.Arcs j8).toArray 28 (0, 0)), (some b71, .cells #[.int .i64 r14.N, .int .i64 r14.S, .int .i64 r14.T, .slice (sb ob17) n18 c19, .slice (sb ob21) n22 c23, .slice (sb ob25) n26 c27, .slice (sb ob29) n30 c31, .slice (sb ob33) n34 c35, .slice (sb ob37) n38 c39] 33 (0, 0)), (ob17, .cells (arr (intC .i64) r14.First j20).toArray 3 (0, 0)), (ob21, .cells (arr (intC .i64) r14.Head j24).toArray 3 (0, 0)), (ob25, .cells (arr (intC .i64) r14.Rev j28).toArray 3 (0, 0)), (ob29, .cells (arr (intC .i64) r14.Cap j32).toArray 2 (0, 0)), (ob33, .cells (arr (intC .i64) r14.Arc j36).toArray 3 (0, 0)), (ob37, .cells (arr boolC r14.Back j40).toArray 4 (0, 0))]
                                    · exact mixed
                                    · exact rfl
                                    · kernel_rfl
                                    · kernel_rfl
                                    · kernel_rfl
                                    · exact rfl
                                    · exact rfl
                                    · exact rfl
                                    · exact rfl
                                    · exact (by repeat (first | exact Pick.refl _ | exact Pick.nil | apply Pick.none | refine Pick.cons (by repeat (first | exact Take.head _ _ | apply Take.tail)) ?_))
                                    · refine ⟨?_, ?_, ?_, ?_, ?_, ?_, ?_, ?_, ?_, ?_, trivial⟩
                                      · rintro vs es Es Hx -
                                        refine TO.reenv (D := []) rfl ?_
                                        refine TO.fieldAddr0 rfl rfl rfl rfl TWLCsrPairsa.f24_3 ?_
                                        refine TO.done ?_; exact X.obQ rfl ⟨rfl, rfl⟩ (Pick.refl _) rfl
                                      · rintro vs es Es Hx ⟨⟨h_0, e_0⟩, -⟩
                                        refine TO.reenv (D := [(147, vs 0)]) rfl ?_; rw [h_0]
                                        refine TO.load1 rfl rfl rfl rfl TWLCsrPairsa.s22 (List.Mem.head _) rfl ?_
                                        refine TO.done ?_; exact X.obQ rfl ⟨rfl, rfl⟩ (Pick.refl _) (by show [(147, vs 0)] = _; rw [h_0])
                                      · rintro vs es Es Hx -
                                        refine TO.reenv (D := []) rfl ?_
                                        refine TO.fieldAddr0 rfl rfl rfl rfl TWLCsrPairsa.f33_7 ?_
                                        refine TO.done ?_; exact X.obQ rfl ⟨rfl, rfl⟩ (Pick.refl _) rfl
                                      · rintro vs es Es Hx ⟨⟨h_2, e_2⟩, -⟩
                                        refine TO.reenv (D := [(149, vs 2)]) rfl ?_; rw [h_2]
                                        refine TO.load1 rfl rfl rfl rfl TWLCsrPairsa.s30 (List.Mem.tail _ (List.Mem.tail _ (List.Mem.head _))) rfl ?_
                                        refine TO.done ?_; exact X.obQ rfl ⟨rfl, rfl⟩ (Pick.refl _) (by show [(149, vs 2)] = _; rw [h_2])
                                      · rintro vs es Es Hx -
                                        refine TO.reenv (D := []) rfl ?_
                                        refine TO.move rfl rfl rfl rfl ?_
                                        refine TO.done ?_; exact X.obQ rfl ⟨rfl, rfl⟩ (Pick.refl _) rfl
                                      · rintro vs es Es Hx ⟨⟨h_3, e_3⟩, ⟨h_4, e_4⟩, -⟩
                                        refine TO.reenv (D := [(150, vs 3), (151, vs 4)]) rfl ?_; rw [h_3, h_4]
                                        refine TO.ixV hz60 hc58 hn57 g116 rfl rfl rfl rfl rfl TWLCsrPairsa.l30 TWLCsrPairsa.n3 ?_
                                        refine TO.done ?_; exact X.obQ rfl ⟨rfl, rfl⟩ (Pick.refl _) (by show [(150, vs 3), (151, vs 4)] = _; rw [h_3, h_4])
                                      · rintro vs es Es Hx ⟨⟨h_3, e_3⟩, ⟨h_4, e_4⟩, ⟨h_5, e_5⟩, -⟩
                                        refine TO.reenv (D := [(150, vs 3), (151, vs 4), (152, vs 5)]) rfl ?_; rw [h_3, h_4, h_5]
                                        refine TO.ldIV hz60 hc58 hn57 g116 rfl rfl rfl rfl TWLCsrPairsa.s3 (List.Mem.tail _ (List.Mem.tail _ (List.Mem.tail _ (List.Mem.tail _ (List.Mem.tail _ (List.Mem.tail _ (List.Mem.tail _ (List.Mem.head _)))))))) ?_
                                        refine TO.done ?_; exact X.obQ rfl ⟨rfl, rfl⟩ (Pick.refl _) (by show [(150, vs 3), (151, vs 4), (152, vs 5)] = _; rw [h_3, h_4, h_5])
                                      · rintro vs es Es Hx ⟨⟨h_1, e_1⟩, ⟨h_6, e_6⟩, -⟩
                                        refine TO.reenv (D := [(148, vs 1), (153, vs 6)]) rfl ?_; rw [h_1, h_6]
                                        refine TO.ixV hz12 hc10 hn9 g117 rfl rfl rfl rfl rfl TWLCsrPairsa.l22 TWLCsrPairsa.n28 ?_
                                        refine TO.done ?_; exact X.obQ rfl ⟨rfl, rfl⟩ (Pick.refl _) (by show [(148, vs 1), (153, vs 6)] = _; rw [h_1, h_6])
                                      · rintro vs es Es Hx ⟨⟨h_1, e_1⟩, ⟨h_6, e_6⟩, ⟨h_7, e_7⟩, -⟩
                                        refine TO.reenv (D := [(148, vs 1), (153, vs 6), (154, vs 7)]) rfl ?_; rw [h_1, h_6, h_7]
                                        refine TO.ldSV (f := arcC) (cs := [.int .i64 ((r3.Arcs.getD (r14.Arc.getD x88.toNat 0).toNat default).fr), .int .i64 ((r3.Arcs.getD (r14.Arc.getD x88.toNat 0).toNat default).to), .int .i64 ((r3.Arcs.getD (r14.Arc.getD x88.toNat 0).toNat default).cap)]) default (fun _ => rfl) hz12 hc10 hn9 g117 rfl rfl rfl rfl rfl TWLCsrPairsa.a28 (List.Mem.tail _ (List.Mem.head _)) ?_
                                        refine TO.done ?_; exact X.obQ rfl ⟨rfl, rfl⟩ (Pick.refl _) (by show [(148, vs 1), (153, vs 6), (154, vs 7)] = _; rw [h_1, h_6, h_7])
                                      · rintro vs es Es Hx -
                                        refine TO.reenv (D := []) rfl ?_
                                        refine TO.allocA rfl rfl rfl TWLCsrPairsa.z28 ?_; intro b118
                                        refine TO.done ?_; exact X.obQ rfl ⟨b118, rfl, rfl⟩ (by repeat (first | exact Pick.refl _ | exact Pick.nil | apply Pick.none | refine Pick.cons (by repeat (first | exact Take.head _ _ | apply Take.tail)) ?_)) rfl
                                    · rintro vs es hb ⟨⟨h_0, e_0⟩, ⟨h_1, e_1⟩, ⟨h_2, e_2⟩, ⟨h_3, e_3⟩, ⟨h_4, e_4⟩, ⟨h_5, e_5⟩, ⟨h_6, e_6⟩, ⟨h_7, e_7⟩, ⟨h_8, e_8⟩, ⟨b118, h_9, e_9⟩, -⟩ hHR
                                      obtain rfl : hb = [] := hHR
                                      refine TO.reenv (D := [(147, vs 0), (148, vs 1), (149, vs 2), (150, vs 3), (151, vs 4), (152, vs 5), (153, vs 6), (154, vs 7), (155, vs 8), (11, vs 9)]) rfl ?_
                                      refine TO.reheap (H := [(some b1, .cells #[.int .i64 r3.N, .int .i64 r3.S, .int .i64 r3.T, .slice (sb ob5) n6 c7] 24 (0, 0)), (ob5, .cells (arr arcC r3.Arcs j8).toArray 28 (0, 0)), (some b71, .cells #[.int .i64 r14.N, .int .i64 r14.S, .int .i64 r14.T, .slice (sb ob17) n18 c19, .slice (sb ob21) n22 c23, .slice (sb ob25) n26 c27, .slice (sb ob29) n30 c31, .slice (sb ob33) n34 c35, .slice (sb ob37) n38 c39] 33 (0, 0)), (ob17, .cells (arr (intC .i64) r14.First j20).toArray 3 (0, 0)), (ob21, .cells (arr (intC .i64) r14.Head j24).toArray 3 (0, 0)), (ob25, .cells (arr (intC .i64) r14.Rev j28).toArray 3 (0, 0)), (ob29, .cells (arr (intC .i64) r14.Cap j32).toArray 2 (0, 0)), (ob33, .cells (arr (intC .i64) r14.Arc j36).toArray 3 (0, 0)), (ob37, .cells (arr boolC r14.Back j40).toArray 4 (0, 0)), (some b118, .cells #[.int .i64 0, .int .i64 0, .int .i64 0] 28 (0, 0))]) (by show _ ++ (_ ++ (es 0 ++ (es 1 ++ (es 2 ++ (es 3 ++ (es 4 ++ (es 5 ++ (es 6 ++ (es 7 ++ (es 8 ++ (es 9 ++ ([])))))))))))) = _; rw [e_0, e_1, e_2, e_3, e_4, e_5, e_6, e_7, e_8, e_9]; rfl) ?_
                                      rw [h_0, h_1, h_2, h_3, h_4, h_5, h_6, h_7, h_8, h_9]
                                      clear h_9 h_8 h_7 h_6 h_5 h_4 h_3 h_2 h_1 h_0 e_0 e_1 e_2 e_3 e_4 e_5 e_6 e_7 e_8 e_9
                                      refine TO.storeA rfl rfl rfl rfl (Take.tail (Take.tail (Take.tail (Take.tail (Take.tail (Take.tail (Take.tail (Take.tail (Take.tail (Take.head _ _)))))))))) TWLCsrPairsa.n28 rfl rfl rfl ?_
                                      refine TO.done ?_
                                      refine X.seq_normal ?_
                                      refine T.trim (AllF.cons (t := 1) rfl (AllF.cons (t := 3) rfl (AllF.cons (t := 54) rfl (AllF.cons (t := 55) rfl (AllF.cons (t := 5) rfl (AllF.cons (t := 66) rfl (AllF.cons (t := 67) rfl (AllF.cons (t := 68) rfl (AllF.cons (t := 69) rfl (AllF.cons (t := 72) rfl (AllF.cons (t := 73) rfl (AllF.cons (t := 74) rfl (AllF.cons (t := 77) rfl (AllF.cons (t := 78) rfl (AllF.cons (t := 79) rfl (AllF.cons (t := 80) rfl (AllF.cons (t := 81) rfl (AllF.cons (t := 82) rfl (AllF.cons (t := 83) rfl (AllF.cons (t := 86) rfl (AllF.cons (t := 87) rfl (AllF.cons (t := 88) rfl (AllF.cons (t := 89) rfl (AllF.cons (t := 90) rfl (AllF.cons (t := 91) rfl (AllF.cons (t := 92) rfl (AllF.cons (t := 93) rfl (AllF.cons (t := 94) rfl (AllF.cons (t := 95) rfl (AllF.cons (t := 96) rfl (AllF.cons (t := 99) rfl (AllF.cons (t := 100) rfl (AllF.cons (t := 101) rfl (AllF.cons (t := 102) rfl (AllF.cons (t := 103) rfl (AllF.cons (t := 104) rfl (AllF.cons (t := 105) rfl (AllF.cons (t := 106) rfl (AllF.cons (t := 107) rfl (AllF.cons (t := 108) rfl (AllF.cons (t := 109) rfl (AllF.cons (t := 7) rfl (AllF.cons (t := 9) rfl (AllF.cons (t := 126) rfl (AllF.cons (t := 127) rfl (AllF.cons (t := 130) rfl (AllF.cons (t := 131) rfl (AllF.cons (t := 132) rfl (AllF.cons (t := 133) rfl (AllF.cons (t := 134) rfl (AllF.cons (t := 135) rfl (AllF.cons (t := 136) rfl (AllF.cons (t := 139) rfl (AllF.cons (t := 140) rfl (AllF.cons (t := 141) rfl (AllF.cons (t := 142) rfl (AllF.cons (t := 143) rfl (AllF.cons (t := 144) rfl (AllF.cons (t := 145) rfl (AllF.cons (t := 11) rfl AllF.nil)))))))))))))))))))))))))))))))))))))))))))))))))))))))))))) ?_
                                      refine T.seq ?_
                                      obtain ⟨g120, H⟩ := gd_some H
                                      rcases ite_some H with ⟨g121, H⟩ | ⟨g121, H⟩
                                      ·
                                        rcases ite_some H with ⟨g122, H⟩ | ⟨g122, H⟩
                                        ·
                                          apply T.drawQT [(156, _), (157, _), (158, _), (159, _), (160, _), (161, _), (162, _), (163, _), (164, _), (165, _), (166, _), (167, _), (168, _), (169, _), (170, _), (171, _), (172, _), (173, _), (174, _), (175, _), (176, _), (177, _), (178, _), (179, _), (180, _), (181, _), (182, _), (183, _), (184, _), (185, _), (186, _), (187, _), (188, _), (189, _), (190, _), (191, _), (192, _), (193, _)]
                                          · exact mixed
                                          · kernel_rfl
                                          · kernel_rfl
                                          · exact rfl
                                          · exact rfl
                                          · refine ⟨?_, ?_, ?_, ?_, ?_, ?_, ?_, ?_, ?_, ?_, ?_, ?_, ?_, ?_, ?_, ?_, ?_, ?_, ?_, ?_, ?_, ?_, ?_, ?_, ?_, ?_, ?_, ?_, ?_, ?_, ?_, ?_, ?_, ?_, ?_, ?_, ?_, ?_, trivial⟩
                                            · intro Es
                                              refine TO.fieldAddr0 rfl rfl rfl rfl TWLCsrPairsa.f33_8 ?_
                                              exact TO.done (X.ob rfl (Pick.refl _))
                                            · intro Es
                                              refine TO.load1 rfl rfl rfl rfl TWLCsrPairsa.s31 (List.Mem.tail _ (List.Mem.tail _ (List.Mem.tail _ (List.Mem.head _)))) rfl ?_
                                              exact TO.done (X.ob rfl (Pick.refl _))
                                            · intro Es
                                              refine TO.move rfl rfl rfl rfl ?_
                                              exact TO.done (X.ob rfl (Pick.refl _))
                                            · intro Es
                                              refine TO.ixV hz64 hc62 hn61 g120 rfl rfl rfl rfl rfl TWLCsrPairsa.l31 TWLCsrPairsa.n4 ?_
                                              exact TO.done (X.ob rfl (Pick.refl _))
                                            · intro Es
                                              refine TO.ldBV hz64 hc62 hn61 g120 rfl rfl rfl rfl TWLCsrPairsa.s4 (List.Mem.tail _ (List.Mem.tail _ (List.Mem.tail _ (List.Mem.tail _ (List.Mem.tail _ (List.Mem.tail _ (List.Mem.tail _ (List.Mem.tail _ (List.Mem.tail _ (List.Mem.head _)))))))))) ?_
                                              exact TO.done (X.ob rfl (Pick.refl _))
                                            · intro Es
                                              refine TO.not rfl rfl rfl rfl ?_
                                              exact TO.done (X.ob rfl (Pick.refl _))
                                            · intro Es
                                              refine TO.move rfl rfl rfl rfl ?_
                                              refine TO.decB (t := 162) (b' := true) rfl g121 ?_
                                              exact TO.done (X.ob2 rfl (Pick.refl _))
                                            · intro Es
                                              refine TO.fieldAddr0 rfl rfl rfl rfl TWLCsrPairsa.f28_0 ?_
                                              exact TO.done (X.ob rfl (Pick.refl _))
                                            · intro Es
                                              refine TO.load1 rfl rfl rfl rfl TWLCsrPairsa.s3 (List.Mem.head _) rfl ?_
                                              exact TO.done (X.ob rfl (Pick.refl _))
                                            · intro Es
                                              refine TO.move rfl rfl rfl rfl ?_
                                              exact TO.done (X.ob rfl (Pick.refl _))
                                            · intro Es
                                              refine TO.bin rfl rfl rfl rfl rfl rfl ?_
                                              exact TO.done (X.ob rfl (Pick.refl _))
                                            · intro Es
                                              refine TO.move rfl rfl rfl rfl ?_
                                              refine TO.decB (t := 167) (b' := true) rfl (decide_eq_true g122) ?_
                                              exact TO.done (X.ob2 rfl (Pick.refl _))
                                            · intro Es
                                              refine TO.shut rfl rfl rfl rfl ?_
                                              exact TO.done (X.ob rfl (Pick.refl _))
                                            · intro Es
                                              refine TO.shut rfl rfl rfl rfl ?_
                                              exact TO.done (X.ob rfl (Pick.refl _))
                                            · intro Es
                                              refine TO.shut rfl rfl rfl rfl ?_
                                              exact TO.done (X.ob rfl (Pick.refl _))
                                            · intro Es
                                              refine TO.shut rfl rfl rfl rfl ?_
                                              exact TO.done (X.ob rfl (Pick.refl _))
                                            · intro Es
                                              refine TO.pickT rfl rfl rfl rfl rfl ?_
                                              exact TO.done (X.ob rfl (Pick.refl _))
                                            · intro Es
                                              refine TO.move rfl rfl rfl rfl ?_
                                              exact TO.done (X.ob rfl (Pick.refl _))
                                            · intro Es
                                              refine TO.shut rfl rfl rfl rfl ?_
                                              exact TO.done (X.ob rfl (Pick.refl _))
                                            · intro Es
                                              refine TO.shut rfl rfl rfl rfl ?_
                                              exact TO.done (X.ob rfl (Pick.refl _))
                                            · intro Es
                                              refine TO.shut rfl rfl rfl rfl ?_
                                              exact TO.done (X.ob rfl (Pick.refl _))
                                            · intro Es
                                              refine TO.shut rfl rfl rfl rfl ?_
                                              exact TO.done (X.ob rfl (Pick.refl _))
                                            · intro Es
                                              refine TO.shut rfl rfl rfl rfl ?_
                                              exact TO.done (X.ob rfl (Pick.refl _))
                                            · intro Es
                                              refine TO.shut rfl rfl rfl rfl ?_
                                              exact TO.done (X.ob rfl (Pick.refl _))
                                            · intro Es
                                              refine TO.shut rfl rfl rfl rfl ?_
                                              exact TO.done (X.ob rfl (Pick.refl _))
                                            · intro Es
                                              refine TO.shut rfl rfl rfl rfl ?_
                                              exact TO.done (X.ob rfl (Pick.refl _))
                                            · intro Es
                                              refine TO.pickT rfl rfl rfl rfl rfl ?_
                                              exact TO.done (X.ob rfl (Pick.refl _))
                                            · intro Es
                                              refine TO.pickT rfl rfl rfl rfl rfl ?_
                                              exact TO.done (X.ob rfl (Pick.refl _))
                                            · intro Es
                                              refine TO.move rfl rfl rfl rfl ?_
                                              exact TO.done (X.ob rfl (Pick.refl _))
                                            · intro Es
                                              refine TO.shut rfl rfl rfl rfl ?_
                                              exact TO.done (X.ob rfl (Pick.refl _))
                                            · intro Es
                                              refine TO.shut rfl rfl rfl rfl ?_
                                              exact TO.done (X.ob rfl (Pick.refl _))
                                            · intro Es
                                              refine TO.shut rfl rfl rfl rfl ?_
                                              exact TO.done (X.ob rfl (Pick.refl _))
                                            · intro Es
                                              refine TO.shut rfl rfl rfl rfl ?_
                                              exact TO.done (X.ob rfl (Pick.refl _))
                                            · intro Es
                                              refine TO.shut rfl rfl rfl rfl ?_
                                              exact TO.done (X.ob rfl (Pick.refl _))
                                            · intro Es
                                              refine TO.shut rfl rfl rfl rfl ?_
                                              exact TO.done (X.ob rfl (Pick.refl _))
                                            · intro Es
                                              refine TO.shutU rfl rfl rfl rfl ?_
                                              exact TO.done (X.ob rfl (Pick.refl _))
                                            · intro Es
                                              refine TO.shutU rfl rfl rfl rfl ?_
                                              exact TO.done (X.ob rfl (Pick.refl _))
                                            · intro Es
                                              refine TO.shutU rfl rfl rfl rfl ?_
                                              exact TO.done (X.ob rfl (Pick.refl _))
                                          refine TO.shutU rfl rfl rfl rfl ?_
                                          refine TO.shutU rfl rfl rfl rfl ?_
                                          refine TO.shutU rfl rfl rfl rfl ?_
                                          refine TO.shut rfl rfl rfl rfl ?_
                                          refine TO.pickT rfl rfl rfl rfl rfl ?_
                                          refine TO.done ?_
                                          refine X.seq_normal ?_
                                          refine T.trim (AllF.cons (t := 1) rfl (AllF.cons (t := 3) rfl (AllF.cons (t := 54) rfl (AllF.cons (t := 55) rfl (AllF.cons (t := 66) rfl (AllF.cons (t := 67) rfl (AllF.cons (t := 68) rfl (AllF.cons (t := 69) rfl (AllF.cons (t := 72) rfl (AllF.cons (t := 73) rfl (AllF.cons (t := 74) rfl (AllF.cons (t := 77) rfl (AllF.cons (t := 78) rfl (AllF.cons (t := 79) rfl (AllF.cons (t := 80) rfl (AllF.cons (t := 81) rfl (AllF.cons (t := 82) rfl (AllF.cons (t := 83) rfl (AllF.cons (t := 86) rfl (AllF.cons (t := 87) rfl (AllF.cons (t := 88) rfl (AllF.cons (t := 89) rfl (AllF.cons (t := 90) rfl (AllF.cons (t := 91) rfl (AllF.cons (t := 92) rfl (AllF.cons (t := 93) rfl (AllF.cons (t := 94) rfl (AllF.cons (t := 95) rfl (AllF.cons (t := 96) rfl (AllF.cons (t := 99) rfl (AllF.cons (t := 100) rfl (AllF.cons (t := 101) rfl (AllF.cons (t := 102) rfl (AllF.cons (t := 103) rfl (AllF.cons (t := 104) rfl (AllF.cons (t := 105) rfl (AllF.cons (t := 106) rfl (AllF.cons (t := 107) rfl (AllF.cons (t := 108) rfl (AllF.cons (t := 109) rfl (AllF.cons (t := 126) rfl (AllF.cons (t := 127) rfl (AllF.cons (t := 130) rfl (AllF.cons (t := 131) rfl (AllF.cons (t := 132) rfl (AllF.cons (t := 133) rfl (AllF.cons (t := 134) rfl (AllF.cons (t := 135) rfl (AllF.cons (t := 136) rfl (AllF.cons (t := 139) rfl (AllF.cons (t := 140) rfl (AllF.cons (t := 141) rfl (AllF.cons (t := 142) rfl (AllF.cons (t := 143) rfl (AllF.cons (t := 144) rfl (AllF.cons (t := 145) rfl (AllF.cons (t := 163) rfl (AllF.cons (t := 164) rfl (AllF.cons (t := 165) rfl (AllF.cons (t := 166) rfl (AllF.cons (t := 167) rfl (AllF.cons (t := 168) rfl (AllF.cons (t := 169) rfl (AllF.cons (t := 170) rfl (AllF.cons (t := 171) rfl (AllF.cons (t := 172) rfl (AllF.cons (t := 173) rfl (AllF.cons (t := 174) rfl (AllF.cons (t := 175) rfl (AllF.cons (t := 176) rfl (AllF.cons (t := 177) rfl (AllF.cons (t := 178) rfl (AllF.cons (t := 179) rfl (AllF.cons (t := 180) rfl (AllF.cons (t := 181) rfl (AllF.cons (t := 182) rfl (AllF.cons (t := 185) rfl (AllF.cons (t := 186) rfl (AllF.cons (t := 187) rfl (AllF.cons (t := 188) rfl (AllF.cons (t := 189) rfl (AllF.cons (t := 190) rfl (AllF.cons (t := 191) rfl (AllF.cons (t := 192) rfl (AllF.cons (t := 193) rfl (AllF.cons (t := 194) rfl (AllF.cons (t := 195) rfl (AllF.cons (t := 196) rfl (AllF.cons (t := 197) rfl (AllF.cons (t := 198) rfl AllF.nil)))))))))))))))))))))))))))))))))))))))))))))))))))))))))))))))))))))))))))))))))))))))))) ?_
                                          refine T.condT rfl rfl ?_
                                          refine T.seq ?_
                                          refine T.regionL (ll := [0]) rfl ?_
                                          refine TO.assign rfl rfl rfl rfl ?_
                                          refine TO.done ?_
                                          refine X.seq_normal ?_
                                          refine T.trim (AllF.cons (t := 2) rfl AllF.nil) ?_
                                          refine T.ret ?_
                                          refine X.block_ret ?_
                                          refine X.then_ret ?_
                                          have H := loop_exitE H C_1 ▸ K_1
                                          refine X.then_ret ?_
                                          refine X.block_ret ?_
                                          refine X.then_ret ?_
                                          obtain rfl := ret1 H
                                          exact X.ret1 rfl rfl rfl rfl (Res.tmp rfl) Pick.nil ⟨rfl, rfl⟩
                                        ·
                                          rcases ite_some H with ⟨g123, H⟩ | ⟨g123, H⟩
                                          ·
                                            apply T.drawQT [(156, _), (157, _), (158, _), (159, _), (160, _), (161, _), (162, _), (163, _), (164, _), (165, _), (166, _), (167, _), (168, _), (169, _), (170, _), (171, _), (172, _), (173, _), (174, _), (175, _), (176, _), (177, _), (178, _), (179, _), (180, _), (181, _), (182, _), (183, _), (184, _), (185, _), (186, _), (187, _), (188, _), (189, _), (190, _), (191, _), (192, _), (193, _)]
                                            · exact mixed
                                            · kernel_rfl
                                            · kernel_rfl
                                            · exact rfl
                                            · exact rfl
                                            · refine ⟨?_, ?_, ?_, ?_, ?_, ?_, ?_, ?_, ?_, ?_, ?_, ?_, ?_, ?_, ?_, ?_, ?_, ?_, ?_, ?_, ?_, ?_, ?_, ?_, ?_, ?_, ?_, ?_, ?_, ?_, ?_, ?_, ?_, ?_, ?_, ?_, ?_, ?_, trivial⟩
                                              · intro Es
                                                refine TO.fieldAddr0 rfl rfl rfl rfl TWLCsrPairsa.f33_8 ?_
                                                exact TO.done (X.ob rfl (Pick.refl _))
                                              · intro Es
                                                refine TO.load1 rfl rfl rfl rfl TWLCsrPairsa.s31 (List.Mem.tail _ (List.Mem.tail _ (List.Mem.tail _ (List.Mem.head _)))) rfl ?_
                                                exact TO.done (X.ob rfl (Pick.refl _))
                                              · intro Es
                                                refine TO.move rfl rfl rfl rfl ?_
                                                exact TO.done (X.ob rfl (Pick.refl _))
                                              · intro Es
                                                refine TO.ixV hz64 hc62 hn61 g120 rfl rfl rfl rfl rfl TWLCsrPairsa.l31 TWLCsrPairsa.n4 ?_
                                                exact TO.done (X.ob rfl (Pick.refl _))
                                              · intro Es
                                                refine TO.ldBV hz64 hc62 hn61 g120 rfl rfl rfl rfl TWLCsrPairsa.s4 (List.Mem.tail _ (List.Mem.tail _ (List.Mem.tail _ (List.Mem.tail _ (List.Mem.tail _ (List.Mem.tail _ (List.Mem.tail _ (List.Mem.tail _ (List.Mem.tail _ (List.Mem.head _)))))))))) ?_
                                                exact TO.done (X.ob rfl (Pick.refl _))
                                              · intro Es
                                                refine TO.not rfl rfl rfl rfl ?_
                                                exact TO.done (X.ob rfl (Pick.refl _))
                                              · intro Es
                                                refine TO.move rfl rfl rfl rfl ?_
                                                refine TO.decB (t := 162) (b' := true) rfl g121 ?_
                                                exact TO.done (X.ob2 rfl (Pick.refl _))
                                              · intro Es
                                                refine TO.fieldAddr0 rfl rfl rfl rfl TWLCsrPairsa.f28_0 ?_
                                                exact TO.done (X.ob rfl (Pick.refl _))
                                              · intro Es
                                                refine TO.load1 rfl rfl rfl rfl TWLCsrPairsa.s3 (List.Mem.head _) rfl ?_
                                                exact TO.done (X.ob rfl (Pick.refl _))
                                              · intro Es
                                                refine TO.move rfl rfl rfl rfl ?_
                                                exact TO.done (X.ob rfl (Pick.refl _))
                                              · intro Es
                                                refine TO.bin rfl rfl rfl rfl rfl rfl ?_
                                                exact TO.done (X.ob rfl (Pick.refl _))
                                              · intro Es
                                                refine TO.move rfl rfl rfl rfl ?_
                                                refine TO.decB (t := 167) (b' := false) rfl (decide_eq_false g122) ?_
                                                exact TO.done (X.ob2 rfl (Pick.refl _))
                                              · intro Es
                                                refine TO.fieldAddr0 rfl rfl rfl rfl TWLCsrPairsa.f28_1 ?_
                                                exact TO.done (X.ob rfl (Pick.refl _))
                                              · intro Es
                                                refine TO.load1 rfl rfl rfl rfl TWLCsrPairsa.s3 (List.Mem.head _) rfl ?_
                                                exact TO.done (X.ob rfl (Pick.refl _))
                                              · intro Es
                                                refine TO.move rfl rfl rfl rfl ?_
                                                exact TO.done (X.ob rfl (Pick.refl _))
                                              · intro Es
                                                refine TO.bin rfl rfl rfl rfl rfl rfl ?_
                                                exact TO.done (X.ob rfl (Pick.refl _))
                                              · intro Es
                                                refine TO.pickF rfl rfl rfl rfl rfl ?_
                                                exact TO.done (X.ob rfl (Pick.refl _))
                                              · intro Es
                                                refine TO.move rfl rfl rfl rfl ?_
                                                refine TO.decB (t := 173) (b' := true) rfl (decide_eq_true g123) ?_
                                                exact TO.done (X.ob2 rfl (Pick.refl _))
                                              · intro Es
                                                refine TO.shut rfl rfl rfl rfl ?_
                                                exact TO.done (X.ob rfl (Pick.refl _))
                                              · intro Es
                                                refine TO.shut rfl rfl rfl rfl ?_
                                                exact TO.done (X.ob rfl (Pick.refl _))
                                              · intro Es
                                                refine TO.shut rfl rfl rfl rfl ?_
                                                exact TO.done (X.ob rfl (Pick.refl _))
                                              · intro Es
                                                refine TO.shut rfl rfl rfl rfl ?_
                                                exact TO.done (X.ob rfl (Pick.refl _))
                                              · intro Es
                                                refine TO.shut rfl rfl rfl rfl ?_
                                                exact TO.done (X.ob rfl (Pick.refl _))
                                              · intro Es
                                                refine TO.shut rfl rfl rfl rfl ?_
                                                exact TO.done (X.ob rfl (Pick.refl _))
                                              · intro Es
                                                refine TO.shut rfl rfl rfl rfl ?_
                                                exact TO.done (X.ob rfl (Pick.refl _))
                                              · intro Es
                                                refine TO.shut rfl rfl rfl rfl ?_
                                                exact TO.done (X.ob rfl (Pick.refl _))
                                              · intro Es
                                                refine TO.pickT rfl rfl rfl rfl rfl ?_
                                                exact TO.done (X.ob rfl (Pick.refl _))
                                              · intro Es
                                                refine TO.pickT rfl rfl rfl rfl rfl ?_
                                                exact TO.done (X.ob rfl (Pick.refl _))
                                              · intro Es
                                                refine TO.move rfl rfl rfl rfl ?_
                                                exact TO.done (X.ob rfl (Pick.refl _))
                                              · intro Es
                                                refine TO.shut rfl rfl rfl rfl ?_
                                                exact TO.done (X.ob rfl (Pick.refl _))
                                              · intro Es
                                                refine TO.shut rfl rfl rfl rfl ?_
                                                exact TO.done (X.ob rfl (Pick.refl _))
                                              · intro Es
                                                refine TO.shut rfl rfl rfl rfl ?_
                                                exact TO.done (X.ob rfl (Pick.refl _))
                                              · intro Es
                                                refine TO.shut rfl rfl rfl rfl ?_
                                                exact TO.done (X.ob rfl (Pick.refl _))
                                              · intro Es
                                                refine TO.shut rfl rfl rfl rfl ?_
                                                exact TO.done (X.ob rfl (Pick.refl _))
                                              · intro Es
                                                refine TO.shut rfl rfl rfl rfl ?_
                                                exact TO.done (X.ob rfl (Pick.refl _))
                                              · intro Es
                                                refine TO.shutU rfl rfl rfl rfl ?_
                                                exact TO.done (X.ob rfl (Pick.refl _))
                                              · intro Es
                                                refine TO.shutU rfl rfl rfl rfl ?_
                                                exact TO.done (X.ob rfl (Pick.refl _))
                                              · intro Es
                                                refine TO.shutU rfl rfl rfl rfl ?_
                                                exact TO.done (X.ob rfl (Pick.refl _))
                                            refine TO.shutU rfl rfl rfl rfl ?_
                                            refine TO.shutU rfl rfl rfl rfl ?_
                                            refine TO.shutU rfl rfl rfl rfl ?_
                                            refine TO.shut rfl rfl rfl rfl ?_
                                            refine TO.pickT rfl rfl rfl rfl rfl ?_
                                            refine TO.done ?_
                                            refine X.seq_normal ?_
                                            refine T.trim (AllF.cons (t := 1) rfl (AllF.cons (t := 3) rfl (AllF.cons (t := 54) rfl (AllF.cons (t := 55) rfl (AllF.cons (t := 66) rfl (AllF.cons (t := 67) rfl (AllF.cons (t := 68) rfl (AllF.cons (t := 69) rfl (AllF.cons (t := 72) rfl (AllF.cons (t := 73) rfl (AllF.cons (t := 74) rfl (AllF.cons (t := 77) rfl (AllF.cons (t := 78) rfl (AllF.cons (t := 79) rfl (AllF.cons (t := 80) rfl (AllF.cons (t := 81) rfl (AllF.cons (t := 82) rfl (AllF.cons (t := 83) rfl (AllF.cons (t := 86) rfl (AllF.cons (t := 87) rfl (AllF.cons (t := 88) rfl (AllF.cons (t := 89) rfl (AllF.cons (t := 90) rfl (AllF.cons (t := 91) rfl (AllF.cons (t := 92) rfl (AllF.cons (t := 93) rfl (AllF.cons (t := 94) rfl (AllF.cons (t := 95) rfl (AllF.cons (t := 96) rfl (AllF.cons (t := 99) rfl (AllF.cons (t := 100) rfl (AllF.cons (t := 101) rfl (AllF.cons (t := 102) rfl (AllF.cons (t := 103) rfl (AllF.cons (t := 104) rfl (AllF.cons (t := 105) rfl (AllF.cons (t := 106) rfl (AllF.cons (t := 107) rfl (AllF.cons (t := 108) rfl (AllF.cons (t := 109) rfl (AllF.cons (t := 126) rfl (AllF.cons (t := 127) rfl (AllF.cons (t := 130) rfl (AllF.cons (t := 131) rfl (AllF.cons (t := 132) rfl (AllF.cons (t := 133) rfl (AllF.cons (t := 134) rfl (AllF.cons (t := 135) rfl (AllF.cons (t := 136) rfl (AllF.cons (t := 139) rfl (AllF.cons (t := 140) rfl (AllF.cons (t := 141) rfl (AllF.cons (t := 142) rfl (AllF.cons (t := 143) rfl (AllF.cons (t := 144) rfl (AllF.cons (t := 145) rfl (AllF.cons (t := 163) rfl (AllF.cons (t := 164) rfl (AllF.cons (t := 165) rfl (AllF.cons (t := 166) rfl (AllF.cons (t := 167) rfl (AllF.cons (t := 168) rfl (AllF.cons (t := 169) rfl (AllF.cons (t := 170) rfl (AllF.cons (t := 171) rfl (AllF.cons (t := 172) rfl (AllF.cons (t := 173) rfl (AllF.cons (t := 174) rfl (AllF.cons (t := 175) rfl (AllF.cons (t := 176) rfl (AllF.cons (t := 177) rfl (AllF.cons (t := 178) rfl (AllF.cons (t := 179) rfl (AllF.cons (t := 180) rfl (AllF.cons (t := 181) rfl (AllF.cons (t := 182) rfl (AllF.cons (t := 185) rfl (AllF.cons (t := 186) rfl (AllF.cons (t := 187) rfl (AllF.cons (t := 188) rfl (AllF.cons (t := 189) rfl (AllF.cons (t := 190) rfl (AllF.cons (t := 191) rfl (AllF.cons (t := 192) rfl (AllF.cons (t := 193) rfl (AllF.cons (t := 194) rfl (AllF.cons (t := 195) rfl (AllF.cons (t := 196) rfl (AllF.cons (t := 197) rfl (AllF.cons (t := 198) rfl AllF.nil)))))))))))))))))))))))))))))))))))))))))))))))))))))))))))))))))))))))))))))))))))))))))) ?_
                                            refine T.condT rfl rfl ?_
                                            refine T.seq ?_
                                            refine T.regionL (ll := [0]) rfl ?_
                                            refine TO.assign rfl rfl rfl rfl ?_
                                            refine TO.done ?_
                                            refine X.seq_normal ?_
                                            refine T.trim (AllF.cons (t := 2) rfl AllF.nil) ?_
                                            refine T.ret ?_
                                            refine X.block_ret ?_
                                            refine X.then_ret ?_
                                            have H := loop_exitE H C_1 ▸ K_1
                                            refine X.then_ret ?_
                                            refine X.block_ret ?_
                                            refine X.then_ret ?_
                                            obtain rfl := ret1 H
                                            exact X.ret1 rfl rfl rfl rfl (Res.tmp rfl) Pick.nil ⟨rfl, rfl⟩
                                          ·
                                            obtain ⟨g124, H⟩ := gd_some H
                                            rcases ite_some H with ⟨g125, H⟩ | ⟨g125, H⟩
                                            ·
                                              apply T.drawQT [(156, _), (157, _), (158, _), (159, _), (160, _), (161, _), (162, _), (163, _), (164, _), (165, _), (166, _), (167, _), (168, _), (169, _), (170, _), (171, _), (172, _), (173, _), (174, _), (175, _), (176, _), (177, _), (178, _), (179, _), (180, _), (181, _), (182, _), (183, _), (184, _), (185, _), (186, _), (187, _), (188, _), (189, _), (190, _), (191, _), (192, _), (193, _)]
                                              · exact mixed
                                              · kernel_rfl
                                              · kernel_rfl
                                              · exact rfl
                                              · exact rfl
                                              · refine ⟨?_, ?_, ?_, ?_, ?_, ?_, ?_, ?_, ?_, ?_, ?_, ?_, ?_, ?_, ?_, ?_, ?_, ?_, ?_, ?_, ?_, ?_, ?_, ?_, ?_, ?_, ?_, ?_, ?_, ?_, ?_, ?_, ?_, ?_, ?_, ?_, ?_, ?_, trivial⟩
                                                · intro Es
                                                  refine TO.fieldAddr0 rfl rfl rfl rfl TWLCsrPairsa.f33_8 ?_
                                                  exact TO.done (X.ob rfl (Pick.refl _))
                                                · intro Es
                                                  refine TO.load1 rfl rfl rfl rfl TWLCsrPairsa.s31 (List.Mem.tail _ (List.Mem.tail _ (List.Mem.tail _ (List.Mem.head _)))) rfl ?_
                                                  exact TO.done (X.ob rfl (Pick.refl _))
                                                · intro Es
                                                  refine TO.move rfl rfl rfl rfl ?_
                                                  exact TO.done (X.ob rfl (Pick.refl _))
                                                · intro Es
                                                  refine TO.ixV hz64 hc62 hn61 g120 rfl rfl rfl rfl rfl TWLCsrPairsa.l31 TWLCsrPairsa.n4 ?_
                                                  exact TO.done (X.ob rfl (Pick.refl _))
                                                · intro Es
                                                  refine TO.ldBV hz64 hc62 hn61 g120 rfl rfl rfl rfl TWLCsrPairsa.s4 (List.Mem.tail _ (List.Mem.tail _ (List.Mem.tail _ (List.Mem.tail _ (List.Mem.tail _ (List.Mem.tail _ (List.Mem.tail _ (List.Mem.tail _ (List.Mem.tail _ (List.Mem.head _)))))))))) ?_
                                                  exact TO.done (X.ob rfl (Pick.refl _))
                                                · intro Es
                                                  refine TO.not rfl rfl rfl rfl ?_
                                                  exact TO.done (X.ob rfl (Pick.refl _))
                                                · intro Es
                                                  refine TO.move rfl rfl rfl rfl ?_
                                                  refine TO.decB (t := 162) (b' := true) rfl g121 ?_
                                                  exact TO.done (X.ob2 rfl (Pick.refl _))
                                                · intro Es
                                                  refine TO.fieldAddr0 rfl rfl rfl rfl TWLCsrPairsa.f28_0 ?_
                                                  exact TO.done (X.ob rfl (Pick.refl _))
                                                · intro Es
                                                  refine TO.load1 rfl rfl rfl rfl TWLCsrPairsa.s3 (List.Mem.head _) rfl ?_
                                                  exact TO.done (X.ob rfl (Pick.refl _))
                                                · intro Es
                                                  refine TO.move rfl rfl rfl rfl ?_
                                                  exact TO.done (X.ob rfl (Pick.refl _))
                                                · intro Es
                                                  refine TO.bin rfl rfl rfl rfl rfl rfl ?_
                                                  exact TO.done (X.ob rfl (Pick.refl _))
                                                · intro Es
                                                  refine TO.move rfl rfl rfl rfl ?_
                                                  refine TO.decB (t := 167) (b' := false) rfl (decide_eq_false g122) ?_
                                                  exact TO.done (X.ob2 rfl (Pick.refl _))
                                                · intro Es
                                                  refine TO.fieldAddr0 rfl rfl rfl rfl TWLCsrPairsa.f28_1 ?_
                                                  exact TO.done (X.ob rfl (Pick.refl _))
                                                · intro Es
                                                  refine TO.load1 rfl rfl rfl rfl TWLCsrPairsa.s3 (List.Mem.head _) rfl ?_
                                                  exact TO.done (X.ob rfl (Pick.refl _))
                                                · intro Es
                                                  refine TO.move rfl rfl rfl rfl ?_
                                                  exact TO.done (X.ob rfl (Pick.refl _))
                                                · intro Es
                                                  refine TO.bin rfl rfl rfl rfl rfl rfl ?_
                                                  exact TO.done (X.ob rfl (Pick.refl _))
                                                · intro Es
                                                  refine TO.pickF rfl rfl rfl rfl rfl ?_
                                                  exact TO.done (X.ob rfl (Pick.refl _))
                                                · intro Es
                                                  refine TO.move rfl rfl rfl rfl ?_
                                                  refine TO.decB (t := 173) (b' := false) rfl (decide_eq_false g123) ?_
                                                  exact TO.done (X.ob2 rfl (Pick.refl _))
                                                · intro Es
                                                  refine TO.fieldAddr0 rfl rfl rfl rfl TWLCsrPairsa.f28_2 ?_
                                                  exact TO.done (X.ob rfl (Pick.refl _))
                                                · intro Es
                                                  refine TO.load1 rfl rfl rfl rfl TWLCsrPairsa.s2 (List.Mem.head _) rfl ?_
                                                  exact TO.done (X.ob rfl (Pick.refl _))
                                                · intro Es
                                                  refine TO.fieldAddr0 rfl rfl rfl rfl TWLCsrPairsa.f33_6 ?_
                                                  exact TO.done (X.ob rfl (Pick.refl _))
                                                · intro Es
                                                  refine TO.load1 rfl rfl rfl rfl TWLCsrPairsa.s25 (List.Mem.tail _ (List.Mem.tail _ (List.Mem.tail _ (List.Mem.head _)))) rfl ?_
                                                  exact TO.done (X.ob rfl (Pick.refl _))
                                                · intro Es
                                                  refine TO.move rfl rfl rfl rfl ?_
                                                  exact TO.done (X.ob rfl (Pick.refl _))
                                                · intro Es
                                                  refine TO.ixV hz56 hc54 hn53 g124 rfl rfl rfl rfl rfl TWLCsrPairsa.l25 TWLCsrPairsa.n2 ?_
                                                  exact TO.done (X.ob rfl (Pick.refl _))
                                                · intro Es
                                                  refine TO.ldIV hz56 hc54 hn53 g124 rfl rfl rfl rfl TWLCsrPairsa.s2 (List.Mem.tail _ (List.Mem.tail _ (List.Mem.tail _ (List.Mem.tail _ (List.Mem.tail _ (List.Mem.tail _ (List.Mem.tail _ (List.Mem.head _)))))))) ?_
                                                  exact TO.done (X.ob rfl (Pick.refl _))
                                                · intro Es
                                                  refine TO.bin rfl rfl rfl rfl rfl rfl ?_
                                                  exact TO.done (X.ob rfl (Pick.refl _))
                                                · intro Es
                                                  refine TO.pickF rfl rfl rfl rfl rfl ?_
                                                  exact TO.done (X.ob rfl (Pick.refl _))
                                                · intro Es
                                                  refine TO.pickT rfl rfl rfl rfl rfl ?_
                                                  exact TO.done (X.ob rfl (Pick.refl _))
                                                · intro Es
                                                  refine TO.move rfl rfl rfl rfl ?_
                                                  refine TO.decB (t := 184) (b' := true) rfl (decide_eq_true g125) ?_
                                                  exact TO.done (X.ob2 rfl (Pick.refl _))
                                                · intro Es
                                                  refine TO.shut rfl rfl rfl rfl ?_
                                                  exact TO.done (X.ob rfl (Pick.refl _))
                                                · intro Es
                                                  refine TO.shut rfl rfl rfl rfl ?_
                                                  exact TO.done (X.ob rfl (Pick.refl _))
                                                · intro Es
                                                  refine TO.shut rfl rfl rfl rfl ?_
                                                  exact TO.done (X.ob rfl (Pick.refl _))
                                                · intro Es
                                                  refine TO.shut rfl rfl rfl rfl ?_
                                                  exact TO.done (X.ob rfl (Pick.refl _))
                                                · intro Es
                                                  refine TO.shut rfl rfl rfl rfl ?_
                                                  exact TO.done (X.ob rfl (Pick.refl _))
                                                · intro Es
                                                  refine TO.shut rfl rfl rfl rfl ?_
                                                  exact TO.done (X.ob rfl (Pick.refl _))
                                                · intro Es
                                                  refine TO.shutU rfl rfl rfl rfl ?_
                                                  exact TO.done (X.ob rfl (Pick.refl _))
                                                · intro Es
                                                  refine TO.shutU rfl rfl rfl rfl ?_
                                                  exact TO.done (X.ob rfl (Pick.refl _))
                                                · intro Es
                                                  refine TO.shutU rfl rfl rfl rfl ?_
                                                  exact TO.done (X.ob rfl (Pick.refl _))
                                              refine TO.shutU rfl rfl rfl rfl ?_
                                              refine TO.shutU rfl rfl rfl rfl ?_
                                              refine TO.shutU rfl rfl rfl rfl ?_
                                              refine TO.shut rfl rfl rfl rfl ?_
                                              refine TO.pickT rfl rfl rfl rfl rfl ?_
                                              refine TO.done ?_
                                              refine X.seq_normal ?_
                                              refine T.trim (AllF.cons (t := 1) rfl (AllF.cons (t := 3) rfl (AllF.cons (t := 54) rfl (AllF.cons (t := 55) rfl (AllF.cons (t := 66) rfl (AllF.cons (t := 67) rfl (AllF.cons (t := 68) rfl (AllF.cons (t := 69) rfl (AllF.cons (t := 72) rfl (AllF.cons (t := 73) rfl (AllF.cons (t := 74) rfl (AllF.cons (t := 77) rfl (AllF.cons (t := 78) rfl (AllF.cons (t := 79) rfl (AllF.cons (t := 80) rfl (AllF.cons (t := 81) rfl (AllF.cons (t := 82) rfl (AllF.cons (t := 83) rfl (AllF.cons (t := 86) rfl (AllF.cons (t := 87) rfl (AllF.cons (t := 88) rfl (AllF.cons (t := 89) rfl (AllF.cons (t := 90) rfl (AllF.cons (t := 91) rfl (AllF.cons (t := 92) rfl (AllF.cons (t := 93) rfl (AllF.cons (t := 94) rfl (AllF.cons (t := 95) rfl (AllF.cons (t := 96) rfl (AllF.cons (t := 99) rfl (AllF.cons (t := 100) rfl (AllF.cons (t := 101) rfl (AllF.cons (t := 102) rfl (AllF.cons (t := 103) rfl (AllF.cons (t := 104) rfl (AllF.cons (t := 105) rfl (AllF.cons (t := 106) rfl (AllF.cons (t := 107) rfl (AllF.cons (t := 108) rfl (AllF.cons (t := 109) rfl (AllF.cons (t := 126) rfl (AllF.cons (t := 127) rfl (AllF.cons (t := 130) rfl (AllF.cons (t := 131) rfl (AllF.cons (t := 132) rfl (AllF.cons (t := 133) rfl (AllF.cons (t := 134) rfl (AllF.cons (t := 135) rfl (AllF.cons (t := 136) rfl (AllF.cons (t := 139) rfl (AllF.cons (t := 140) rfl (AllF.cons (t := 141) rfl (AllF.cons (t := 142) rfl (AllF.cons (t := 143) rfl (AllF.cons (t := 144) rfl (AllF.cons (t := 145) rfl (AllF.cons (t := 163) rfl (AllF.cons (t := 164) rfl (AllF.cons (t := 165) rfl (AllF.cons (t := 166) rfl (AllF.cons (t := 167) rfl (AllF.cons (t := 168) rfl (AllF.cons (t := 169) rfl (AllF.cons (t := 170) rfl (AllF.cons (t := 171) rfl (AllF.cons (t := 172) rfl (AllF.cons (t := 173) rfl (AllF.cons (t := 174) rfl (AllF.cons (t := 175) rfl (AllF.cons (t := 176) rfl (AllF.cons (t := 177) rfl (AllF.cons (t := 178) rfl (AllF.cons (t := 179) rfl (AllF.cons (t := 180) rfl (AllF.cons (t := 181) rfl (AllF.cons (t := 182) rfl (AllF.cons (t := 185) rfl (AllF.cons (t := 186) rfl (AllF.cons (t := 187) rfl (AllF.cons (t := 188) rfl (AllF.cons (t := 189) rfl (AllF.cons (t := 190) rfl (AllF.cons (t := 191) rfl (AllF.cons (t := 192) rfl (AllF.cons (t := 193) rfl (AllF.cons (t := 194) rfl (AllF.cons (t := 195) rfl (AllF.cons (t := 196) rfl (AllF.cons (t := 197) rfl (AllF.cons (t := 198) rfl AllF.nil)))))))))))))))))))))))))))))))))))))))))))))))))))))))))))))))))))))))))))))))))))))))))) ?_
                                              refine T.condT rfl rfl ?_
                                              refine T.seq ?_
                                              refine T.regionL (ll := [0]) rfl ?_
                                              refine TO.assign rfl rfl rfl rfl ?_
                                              refine TO.done ?_
                                              refine X.seq_normal ?_
                                              refine T.trim (AllF.cons (t := 2) rfl AllF.nil) ?_
                                              refine T.ret ?_
                                              refine X.block_ret ?_
                                              refine X.then_ret ?_
                                              have H := loop_exitE H C_1 ▸ K_1
                                              refine X.then_ret ?_
                                              refine X.block_ret ?_
                                              refine X.then_ret ?_
                                              obtain rfl := ret1 H
                                              exact X.ret1 rfl rfl rfl rfl (Res.tmp rfl) Pick.nil ⟨rfl, rfl⟩
                                            ·
                                              obtain ⟨g126, H⟩ := gd_some H
                                              rcases ite_some H with ⟨g127, H⟩ | ⟨g127, H⟩
                                              ·
                                                obtain ⟨g128, H⟩ := gd_some H
                                                apply T.drawQT [(156, _), (157, _), (158, _), (159, _), (160, _), (161, _), (162, _), (163, _), (164, _), (165, _), (166, _), (167, _), (168, _), (169, _), (170, _), (171, _), (172, _), (173, _), (174, _), (175, _), (176, _), (177, _), (178, _), (179, _), (180, _), (181, _), (182, _), (183, _), (184, _), (185, _), (186, _), (187, _), (188, _), (189, _), (190, _), (191, _), (192, _), (193, _)]
                                                · exact mixed
                                                · kernel_rfl
                                                · kernel_rfl
                                                · exact rfl
                                                · exact rfl
                                                · refine ⟨?_, ?_, ?_, ?_, ?_, ?_, ?_, ?_, ?_, ?_, ?_, ?_, ?_, ?_, ?_, ?_, ?_, ?_, ?_, ?_, ?_, ?_, ?_, ?_, ?_, ?_, ?_, ?_, ?_, ?_, ?_, ?_, ?_, ?_, ?_, ?_, ?_, ?_, trivial⟩
                                                  · intro Es
                                                    refine TO.fieldAddr0 rfl rfl rfl rfl TWLCsrPairsa.f33_8 ?_
                                                    exact TO.done (X.ob rfl (Pick.refl _))
                                                  · intro Es
                                                    refine TO.load1 rfl rfl rfl rfl TWLCsrPairsa.s31 (List.Mem.tail _ (List.Mem.tail _ (List.Mem.tail _ (List.Mem.head _)))) rfl ?_
                                                    exact TO.done (X.ob rfl (Pick.refl _))
                                                  · intro Es
                                                    refine TO.move rfl rfl rfl rfl ?_
                                                    exact TO.done (X.ob rfl (Pick.refl _))
                                                  · intro Es
                                                    refine TO.ixV hz64 hc62 hn61 g120 rfl rfl rfl rfl rfl TWLCsrPairsa.l31 TWLCsrPairsa.n4 ?_
                                                    exact TO.done (X.ob rfl (Pick.refl _))
                                                  · intro Es
                                                    refine TO.ldBV hz64 hc62 hn61 g120 rfl rfl rfl rfl TWLCsrPairsa.s4 (List.Mem.tail _ (List.Mem.tail _ (List.Mem.tail _ (List.Mem.tail _ (List.Mem.tail _ (List.Mem.tail _ (List.Mem.tail _ (List.Mem.tail _ (List.Mem.tail _ (List.Mem.head _)))))))))) ?_
                                                    exact TO.done (X.ob rfl (Pick.refl _))
                                                  · intro Es
                                                    refine TO.not rfl rfl rfl rfl ?_
                                                    exact TO.done (X.ob rfl (Pick.refl _))
                                                  · intro Es
                                                    refine TO.move rfl rfl rfl rfl ?_
                                                    refine TO.decB (t := 162) (b' := true) rfl g121 ?_
                                                    exact TO.done (X.ob2 rfl (Pick.refl _))
                                                  · intro Es
                                                    refine TO.fieldAddr0 rfl rfl rfl rfl TWLCsrPairsa.f28_0 ?_
                                                    exact TO.done (X.ob rfl (Pick.refl _))
                                                  · intro Es
                                                    refine TO.load1 rfl rfl rfl rfl TWLCsrPairsa.s3 (List.Mem.head _) rfl ?_
                                                    exact TO.done (X.ob rfl (Pick.refl _))
                                                  · intro Es
                                                    refine TO.move rfl rfl rfl rfl ?_
                                                    exact TO.done (X.ob rfl (Pick.refl _))
                                                  · intro Es
                                                    refine TO.bin rfl rfl rfl rfl rfl rfl ?_
                                                    exact TO.done (X.ob rfl (Pick.refl _))
                                                  · intro Es
                                                    refine TO.move rfl rfl rfl rfl ?_
                                                    refine TO.decB (t := 167) (b' := false) rfl (decide_eq_false g122) ?_
                                                    exact TO.done (X.ob2 rfl (Pick.refl _))
                                                  · intro Es
                                                    refine TO.fieldAddr0 rfl rfl rfl rfl TWLCsrPairsa.f28_1 ?_
                                                    exact TO.done (X.ob rfl (Pick.refl _))
                                                  · intro Es
                                                    refine TO.load1 rfl rfl rfl rfl TWLCsrPairsa.s3 (List.Mem.head _) rfl ?_
                                                    exact TO.done (X.ob rfl (Pick.refl _))
                                                  · intro Es
                                                    refine TO.move rfl rfl rfl rfl ?_
                                                    exact TO.done (X.ob rfl (Pick.refl _))
                                                  · intro Es
                                                    refine TO.bin rfl rfl rfl rfl rfl rfl ?_
                                                    exact TO.done (X.ob rfl (Pick.refl _))
                                                  · intro Es
                                                    refine TO.pickF rfl rfl rfl rfl rfl ?_
                                                    exact TO.done (X.ob rfl (Pick.refl _))
                                                  · intro Es
                                                    refine TO.move rfl rfl rfl rfl ?_
                                                    refine TO.decB (t := 173) (b' := false) rfl (decide_eq_false g123) ?_
                                                    exact TO.done (X.ob2 rfl (Pick.refl _))
                                                  · intro Es
                                                    refine TO.fieldAddr0 rfl rfl rfl rfl TWLCsrPairsa.f28_2 ?_
                                                    exact TO.done (X.ob rfl (Pick.refl _))
                                                  · intro Es
                                                    refine TO.load1 rfl rfl rfl rfl TWLCsrPairsa.s2 (List.Mem.head _) rfl ?_
                                                    exact TO.done (X.ob rfl (Pick.refl _))
                                                  · intro Es
                                                    refine TO.fieldAddr0 rfl rfl rfl rfl TWLCsrPairsa.f33_6 ?_
                                                    exact TO.done (X.ob rfl (Pick.refl _))
                                                  · intro Es
                                                    refine TO.load1 rfl rfl rfl rfl TWLCsrPairsa.s25 (List.Mem.tail _ (List.Mem.tail _ (List.Mem.tail _ (List.Mem.head _)))) rfl ?_
                                                    exact TO.done (X.ob rfl (Pick.refl _))
                                                  · intro Es
                                                    refine TO.move rfl rfl rfl rfl ?_
                                                    exact TO.done (X.ob rfl (Pick.refl _))
                                                  · intro Es
                                                    refine TO.ixV hz56 hc54 hn53 g124 rfl rfl rfl rfl rfl TWLCsrPairsa.l25 TWLCsrPairsa.n2 ?_
                                                    exact TO.done (X.ob rfl (Pick.refl _))
                                                  · intro Es
                                                    refine TO.ldIV hz56 hc54 hn53 g124 rfl rfl rfl rfl TWLCsrPairsa.s2 (List.Mem.tail _ (List.Mem.tail _ (List.Mem.tail _ (List.Mem.tail _ (List.Mem.tail _ (List.Mem.tail _ (List.Mem.tail _ (List.Mem.head _)))))))) ?_
                                                    exact TO.done (X.ob rfl (Pick.refl _))
                                                  · intro Es
                                                    refine TO.bin rfl rfl rfl rfl rfl rfl ?_
                                                    exact TO.done (X.ob rfl (Pick.refl _))
                                                  · intro Es
                                                    refine TO.pickF rfl rfl rfl rfl rfl ?_
                                                    exact TO.done (X.ob rfl (Pick.refl _))
                                                  · intro Es
                                                    refine TO.pickT rfl rfl rfl rfl rfl ?_
                                                    exact TO.done (X.ob rfl (Pick.refl _))
                                                  · intro Es
                                                    refine TO.move rfl rfl rfl rfl ?_
                                                    refine TO.decB (t := 184) (b' := false) rfl (decide_eq_false g125) ?_
                                                    exact TO.done (X.ob2 rfl (Pick.refl _))
                                                  · intro Es
                                                    refine TO.fieldAddr0 rfl rfl rfl rfl TWLCsrPairsa.f33_8 ?_
                                                    exact TO.done (X.ob rfl (Pick.refl _))
                                                  · intro Es
                                                    refine TO.load1 rfl rfl rfl rfl TWLCsrPairsa.s31 (List.Mem.tail _ (List.Mem.tail _ (List.Mem.tail _ (List.Mem.head _)))) rfl ?_
                                                    exact TO.done (X.ob rfl (Pick.refl _))
                                                  · intro Es
                                                    refine TO.move rfl rfl rfl rfl ?_
                                                    exact TO.done (X.ob rfl (Pick.refl _))
                                                  · intro Es
                                                    refine TO.ixV hz64 hc62 hn61 g126 rfl rfl rfl rfl rfl TWLCsrPairsa.l31 TWLCsrPairsa.n4 ?_
                                                    exact TO.done (X.ob rfl (Pick.refl _))
                                                  · intro Es
                                                    refine TO.ldBV hz64 hc62 hn61 g126 rfl rfl rfl rfl TWLCsrPairsa.s4 (List.Mem.tail _ (List.Mem.tail _ (List.Mem.tail _ (List.Mem.tail _ (List.Mem.tail _ (List.Mem.tail _ (List.Mem.tail _ (List.Mem.tail _ (List.Mem.tail _ (List.Mem.head _)))))))))) ?_
                                                    exact TO.done (X.ob rfl (Pick.refl _))
                                                  · intro Es
                                                    refine TO.move rfl rfl rfl rfl ?_
                                                    refine TO.decB (t := 190) (b' := true) rfl g127 ?_
                                                    exact TO.done (X.ob2 rfl (Pick.refl _))
                                                  · intro Es
                                                    refine TO.fieldAddr0 rfl rfl rfl rfl TWLCsrPairsa.f33_6 ?_
                                                    exact TO.done (X.ob rfl (Pick.refl _))
                                                  · intro Es
                                                    refine TO.load1 rfl rfl rfl rfl TWLCsrPairsa.s25 (List.Mem.tail _ (List.Mem.tail _ (List.Mem.tail _ (List.Mem.head _)))) rfl ?_
                                                    exact TO.done (X.ob rfl (Pick.refl _))
                                                  · intro Es
                                                    refine TO.move rfl rfl rfl rfl ?_
                                                    exact TO.done (X.ob rfl (Pick.refl _))
                                                refine TO.ixV hz56 hc54 hn53 g128 rfl rfl rfl rfl rfl TWLCsrPairsa.l25 TWLCsrPairsa.n2 ?_
                                                refine TO.ldIV hz56 hc54 hn53 g128 rfl rfl rfl rfl TWLCsrPairsa.s2 (List.Mem.tail _ (List.Mem.tail _ (List.Mem.tail _ (List.Mem.tail _ (List.Mem.tail _ (List.Mem.tail _ (List.Mem.tail _ (List.Mem.head _)))))))) ?_
                                                refine TO.bin rfl rfl rfl rfl rfl rfl ?_
                                                refine TO.pickT rfl rfl rfl rfl rfl ?_
                                                refine TO.pickF rfl rfl rfl rfl rfl ?_
                                                refine TO.done ?_
                                                refine X.seq_normal ?_
                                                refine T.trim (AllF.cons (t := 1) rfl (AllF.cons (t := 3) rfl (AllF.cons (t := 54) rfl (AllF.cons (t := 55) rfl (AllF.cons (t := 66) rfl (AllF.cons (t := 67) rfl (AllF.cons (t := 68) rfl (AllF.cons (t := 69) rfl (AllF.cons (t := 72) rfl (AllF.cons (t := 73) rfl (AllF.cons (t := 74) rfl (AllF.cons (t := 77) rfl (AllF.cons (t := 78) rfl (AllF.cons (t := 79) rfl (AllF.cons (t := 80) rfl (AllF.cons (t := 81) rfl (AllF.cons (t := 82) rfl (AllF.cons (t := 83) rfl (AllF.cons (t := 86) rfl (AllF.cons (t := 87) rfl (AllF.cons (t := 88) rfl (AllF.cons (t := 89) rfl (AllF.cons (t := 90) rfl (AllF.cons (t := 91) rfl (AllF.cons (t := 92) rfl (AllF.cons (t := 93) rfl (AllF.cons (t := 94) rfl (AllF.cons (t := 95) rfl (AllF.cons (t := 96) rfl (AllF.cons (t := 99) rfl (AllF.cons (t := 100) rfl (AllF.cons (t := 101) rfl (AllF.cons (t := 102) rfl (AllF.cons (t := 103) rfl (AllF.cons (t := 104) rfl (AllF.cons (t := 105) rfl (AllF.cons (t := 106) rfl (AllF.cons (t := 107) rfl (AllF.cons (t := 108) rfl (AllF.cons (t := 109) rfl (AllF.cons (t := 126) rfl (AllF.cons (t := 127) rfl (AllF.cons (t := 130) rfl (AllF.cons (t := 131) rfl (AllF.cons (t := 132) rfl (AllF.cons (t := 133) rfl (AllF.cons (t := 134) rfl (AllF.cons (t := 135) rfl (AllF.cons (t := 136) rfl (AllF.cons (t := 139) rfl (AllF.cons (t := 140) rfl (AllF.cons (t := 141) rfl (AllF.cons (t := 142) rfl (AllF.cons (t := 143) rfl (AllF.cons (t := 144) rfl (AllF.cons (t := 145) rfl (AllF.cons (t := 163) rfl (AllF.cons (t := 164) rfl (AllF.cons (t := 165) rfl (AllF.cons (t := 166) rfl (AllF.cons (t := 167) rfl (AllF.cons (t := 168) rfl (AllF.cons (t := 169) rfl (AllF.cons (t := 170) rfl (AllF.cons (t := 171) rfl (AllF.cons (t := 172) rfl (AllF.cons (t := 173) rfl (AllF.cons (t := 174) rfl (AllF.cons (t := 175) rfl (AllF.cons (t := 176) rfl (AllF.cons (t := 177) rfl (AllF.cons (t := 178) rfl (AllF.cons (t := 179) rfl (AllF.cons (t := 180) rfl (AllF.cons (t := 181) rfl (AllF.cons (t := 182) rfl (AllF.cons (t := 185) rfl (AllF.cons (t := 186) rfl (AllF.cons (t := 187) rfl (AllF.cons (t := 188) rfl (AllF.cons (t := 189) rfl (AllF.cons (t := 190) rfl (AllF.cons (t := 191) rfl (AllF.cons (t := 192) rfl (AllF.cons (t := 193) rfl (AllF.cons (t := 194) rfl (AllF.cons (t := 195) rfl (AllF.cons (t := 196) rfl (AllF.cons (t := 197) rfl (AllF.cons (t := 198) rfl AllF.nil)))))))))))))))))))))))))))))))))))))))))))))))))))))))))))))))))))))))))))))))))))))))))) ?_
                                                rcases ite_some H with ⟨g129, H⟩ | ⟨g129, H⟩
                                                ·
                                                  refine T.condPT rfl g129 ?_
                                                  refine T.seq ?_
                                                  refine T.regionL (ll := [0]) rfl ?_
                                                  refine TO.assign rfl rfl rfl rfl ?_
                                                  refine TO.done ?_
                                                  refine X.seq_normal ?_
                                                  refine T.trim (AllF.cons (t := 2) rfl AllF.nil) ?_
                                                  refine T.ret ?_
                                                  refine X.block_ret ?_
                                                  refine X.then_ret ?_
                                                  have H := loop_exitE H C_1 ▸ K_1
                                                  refine X.then_ret ?_
                                                  refine X.block_ret ?_
                                                  refine X.then_ret ?_
                                                  obtain rfl := ret1 H
                                                  exact X.ret1 rfl rfl rfl rfl (Res.tmp rfl) Pick.nil ⟨rfl, rfl⟩
                                                ·
                                                  refine T.condPF rfl g129 ?_
                                                  refine T.skip ?_
                                                  refine X.block_normal ?_
                                                  refine X.seq_normal ?_
                                                  obtain ⟨g130, H⟩ := gd_some H
                                                  refine T.regionL (ll := [0, 1]) rfl ?_
                                                  refine TO.addG g130 rfl rfl rfl rfl rfl ?_
                                                  refine TO.move rfl rfl rfl rfl ?_
                                                  refine TO.done ?_
                                                  have H := loop_next H C_1
                                                  exact X.againE2 n_1 (x88 + 1) H (Nat.lt_succ_self _) (AllF.cons rfl (AllF.cons rfl (AllF.cons rfl (AllF.cons rfl AllF.nil)))) (Pick.cons (Take.tail (Take.head _ _)) (Pick.cons (Take.tail (Take.head _ _)) (Pick.cons (Take.tail (Take.head _ _)) (Pick.cons (Take.tail (Take.head _ _)) (Pick.cons (Take.tail (Take.head _ _)) (Pick.cons (Take.tail (Take.head _ _)) (Pick.cons (Take.tail (Take.head _ _)) (Pick.cons (Take.tail (Take.head _ _)) (Pick.cons (Take.tail (Take.head _ _)) Pick.nil)))))))))
                                              ·
                                                apply T.drawQT [(156, _), (157, _), (158, _), (159, _), (160, _), (161, _), (162, _), (163, _), (164, _), (165, _), (166, _), (167, _), (168, _), (169, _), (170, _), (171, _), (172, _), (173, _), (174, _), (175, _), (176, _), (177, _), (178, _), (179, _), (180, _), (181, _), (182, _), (183, _), (184, _), (185, _), (186, _), (187, _), (188, _), (189, _), (190, _), (191, _), (192, _), (193, _)]
                                                · exact mixed
                                                · kernel_rfl
                                                · kernel_rfl
                                                · exact rfl
                                                · exact rfl
                                                · refine ⟨?_, ?_, ?_, ?_, ?_, ?_, ?_, ?_, ?_, ?_, ?_, ?_, ?_, ?_, ?_, ?_, ?_, ?_, ?_, ?_, ?_, ?_, ?_, ?_, ?_, ?_, ?_, ?_, ?_, ?_, ?_, ?_, ?_, ?_, ?_, ?_, ?_, ?_, trivial⟩
                                                  · intro Es
                                                    refine TO.fieldAddr0 rfl rfl rfl rfl TWLCsrPairsa.f33_8 ?_
                                                    exact TO.done (X.ob rfl (Pick.refl _))
                                                  · intro Es
                                                    refine TO.load1 rfl rfl rfl rfl TWLCsrPairsa.s31 (List.Mem.tail _ (List.Mem.tail _ (List.Mem.tail _ (List.Mem.head _)))) rfl ?_
                                                    exact TO.done (X.ob rfl (Pick.refl _))
                                                  · intro Es
                                                    refine TO.move rfl rfl rfl rfl ?_
                                                    exact TO.done (X.ob rfl (Pick.refl _))
                                                  · intro Es
                                                    refine TO.ixV hz64 hc62 hn61 g120 rfl rfl rfl rfl rfl TWLCsrPairsa.l31 TWLCsrPairsa.n4 ?_
                                                    exact TO.done (X.ob rfl (Pick.refl _))
                                                  · intro Es
                                                    refine TO.ldBV hz64 hc62 hn61 g120 rfl rfl rfl rfl TWLCsrPairsa.s4 (List.Mem.tail _ (List.Mem.tail _ (List.Mem.tail _ (List.Mem.tail _ (List.Mem.tail _ (List.Mem.tail _ (List.Mem.tail _ (List.Mem.tail _ (List.Mem.tail _ (List.Mem.head _)))))))))) ?_
                                                    exact TO.done (X.ob rfl (Pick.refl _))
                                                  · intro Es
                                                    refine TO.not rfl rfl rfl rfl ?_
                                                    exact TO.done (X.ob rfl (Pick.refl _))
                                                  · intro Es
                                                    refine TO.move rfl rfl rfl rfl ?_
                                                    refine TO.decB (t := 162) (b' := true) rfl g121 ?_
                                                    exact TO.done (X.ob2 rfl (Pick.refl _))
                                                  · intro Es
                                                    refine TO.fieldAddr0 rfl rfl rfl rfl TWLCsrPairsa.f28_0 ?_
                                                    exact TO.done (X.ob rfl (Pick.refl _))
                                                  · intro Es
                                                    refine TO.load1 rfl rfl rfl rfl TWLCsrPairsa.s3 (List.Mem.head _) rfl ?_
                                                    exact TO.done (X.ob rfl (Pick.refl _))
                                                  · intro Es
                                                    refine TO.move rfl rfl rfl rfl ?_
                                                    exact TO.done (X.ob rfl (Pick.refl _))
                                                  · intro Es
                                                    refine TO.bin rfl rfl rfl rfl rfl rfl ?_
                                                    exact TO.done (X.ob rfl (Pick.refl _))
                                                  · intro Es
                                                    refine TO.move rfl rfl rfl rfl ?_
                                                    refine TO.decB (t := 167) (b' := false) rfl (decide_eq_false g122) ?_
                                                    exact TO.done (X.ob2 rfl (Pick.refl _))
                                                  · intro Es
                                                    refine TO.fieldAddr0 rfl rfl rfl rfl TWLCsrPairsa.f28_1 ?_
                                                    exact TO.done (X.ob rfl (Pick.refl _))
                                                  · intro Es
                                                    refine TO.load1 rfl rfl rfl rfl TWLCsrPairsa.s3 (List.Mem.head _) rfl ?_
                                                    exact TO.done (X.ob rfl (Pick.refl _))
                                                  · intro Es
                                                    refine TO.move rfl rfl rfl rfl ?_
                                                    exact TO.done (X.ob rfl (Pick.refl _))
                                                  · intro Es
                                                    refine TO.bin rfl rfl rfl rfl rfl rfl ?_
                                                    exact TO.done (X.ob rfl (Pick.refl _))
                                                  · intro Es
                                                    refine TO.pickF rfl rfl rfl rfl rfl ?_
                                                    exact TO.done (X.ob rfl (Pick.refl _))
                                                  · intro Es
                                                    refine TO.move rfl rfl rfl rfl ?_
                                                    refine TO.decB (t := 173) (b' := false) rfl (decide_eq_false g123) ?_
                                                    exact TO.done (X.ob2 rfl (Pick.refl _))
                                                  · intro Es
                                                    refine TO.fieldAddr0 rfl rfl rfl rfl TWLCsrPairsa.f28_2 ?_
                                                    exact TO.done (X.ob rfl (Pick.refl _))
                                                  · intro Es
                                                    refine TO.load1 rfl rfl rfl rfl TWLCsrPairsa.s2 (List.Mem.head _) rfl ?_
                                                    exact TO.done (X.ob rfl (Pick.refl _))
                                                  · intro Es
                                                    refine TO.fieldAddr0 rfl rfl rfl rfl TWLCsrPairsa.f33_6 ?_
                                                    exact TO.done (X.ob rfl (Pick.refl _))
                                                  · intro Es
                                                    refine TO.load1 rfl rfl rfl rfl TWLCsrPairsa.s25 (List.Mem.tail _ (List.Mem.tail _ (List.Mem.tail _ (List.Mem.head _)))) rfl ?_
                                                    exact TO.done (X.ob rfl (Pick.refl _))
                                                  · intro Es
                                                    refine TO.move rfl rfl rfl rfl ?_
                                                    exact TO.done (X.ob rfl (Pick.refl _))
                                                  · intro Es
                                                    refine TO.ixV hz56 hc54 hn53 g124 rfl rfl rfl rfl rfl TWLCsrPairsa.l25 TWLCsrPairsa.n2 ?_
                                                    exact TO.done (X.ob rfl (Pick.refl _))
                                                  · intro Es
                                                    refine TO.ldIV hz56 hc54 hn53 g124 rfl rfl rfl rfl TWLCsrPairsa.s2 (List.Mem.tail _ (List.Mem.tail _ (List.Mem.tail _ (List.Mem.tail _ (List.Mem.tail _ (List.Mem.tail _ (List.Mem.tail _ (List.Mem.head _)))))))) ?_
                                                    exact TO.done (X.ob rfl (Pick.refl _))
                                                  · intro Es
                                                    refine TO.bin rfl rfl rfl rfl rfl rfl ?_
                                                    exact TO.done (X.ob rfl (Pick.refl _))
                                                  · intro Es
                                                    refine TO.pickF rfl rfl rfl rfl rfl ?_
                                                    exact TO.done (X.ob rfl (Pick.refl _))
                                                  · intro Es
                                                    refine TO.pickT rfl rfl rfl rfl rfl ?_
                                                    exact TO.done (X.ob rfl (Pick.refl _))
                                                  · intro Es
                                                    refine TO.move rfl rfl rfl rfl ?_
                                                    refine TO.decB (t := 184) (b' := false) rfl (decide_eq_false g125) ?_
                                                    exact TO.done (X.ob2 rfl (Pick.refl _))
                                                  · intro Es
                                                    refine TO.fieldAddr0 rfl rfl rfl rfl TWLCsrPairsa.f33_8 ?_
                                                    exact TO.done (X.ob rfl (Pick.refl _))
                                                  · intro Es
                                                    refine TO.load1 rfl rfl rfl rfl TWLCsrPairsa.s31 (List.Mem.tail _ (List.Mem.tail _ (List.Mem.tail _ (List.Mem.head _)))) rfl ?_
                                                    exact TO.done (X.ob rfl (Pick.refl _))
                                                  · intro Es
                                                    refine TO.move rfl rfl rfl rfl ?_
                                                    exact TO.done (X.ob rfl (Pick.refl _))
                                                  · intro Es
                                                    refine TO.ixV hz64 hc62 hn61 g126 rfl rfl rfl rfl rfl TWLCsrPairsa.l31 TWLCsrPairsa.n4 ?_
                                                    exact TO.done (X.ob rfl (Pick.refl _))
                                                  · intro Es
                                                    refine TO.ldBV hz64 hc62 hn61 g126 rfl rfl rfl rfl TWLCsrPairsa.s4 (List.Mem.tail _ (List.Mem.tail _ (List.Mem.tail _ (List.Mem.tail _ (List.Mem.tail _ (List.Mem.tail _ (List.Mem.tail _ (List.Mem.tail _ (List.Mem.tail _ (List.Mem.head _)))))))))) ?_
                                                    exact TO.done (X.ob rfl (Pick.refl _))
                                                  · intro Es
                                                    refine TO.move rfl rfl rfl rfl ?_
                                                    refine TO.decB (t := 190) (b' := false) rfl (Bool.eq_false_iff.2 g127) ?_
                                                    exact TO.done (X.ob2 rfl (Pick.refl _))
                                                  · intro Es
                                                    refine TO.shut rfl rfl rfl rfl ?_
                                                    exact TO.done (X.ob rfl (Pick.refl _))
                                                  · intro Es
                                                    refine TO.shut rfl rfl rfl rfl ?_
                                                    exact TO.done (X.ob rfl (Pick.refl _))
                                                  · intro Es
                                                    refine TO.shut rfl rfl rfl rfl ?_
                                                    exact TO.done (X.ob rfl (Pick.refl _))
                                                refine TO.shut rfl rfl rfl rfl ?_
                                                refine TO.shut rfl rfl rfl rfl ?_
                                                refine TO.shut rfl rfl rfl rfl ?_
                                                refine TO.pickF rfl rfl rfl rfl rfl ?_
                                                refine TO.pickF rfl rfl rfl rfl rfl ?_
                                                refine TO.done ?_
                                                refine X.seq_normal ?_
                                                refine T.trim (AllF.cons (t := 1) rfl (AllF.cons (t := 3) rfl (AllF.cons (t := 54) rfl (AllF.cons (t := 55) rfl (AllF.cons (t := 66) rfl (AllF.cons (t := 67) rfl (AllF.cons (t := 68) rfl (AllF.cons (t := 69) rfl (AllF.cons (t := 72) rfl (AllF.cons (t := 73) rfl (AllF.cons (t := 74) rfl (AllF.cons (t := 77) rfl (AllF.cons (t := 78) rfl (AllF.cons (t := 79) rfl (AllF.cons (t := 80) rfl (AllF.cons (t := 81) rfl (AllF.cons (t := 82) rfl (AllF.cons (t := 83) rfl (AllF.cons (t := 86) rfl (AllF.cons (t := 87) rfl (AllF.cons (t := 88) rfl (AllF.cons (t := 89) rfl (AllF.cons (t := 90) rfl (AllF.cons (t := 91) rfl (AllF.cons (t := 92) rfl (AllF.cons (t := 93) rfl (AllF.cons (t := 94) rfl (AllF.cons (t := 95) rfl (AllF.cons (t := 96) rfl (AllF.cons (t := 99) rfl (AllF.cons (t := 100) rfl (AllF.cons (t := 101) rfl (AllF.cons (t := 102) rfl (AllF.cons (t := 103) rfl (AllF.cons (t := 104) rfl (AllF.cons (t := 105) rfl (AllF.cons (t := 106) rfl (AllF.cons (t := 107) rfl (AllF.cons (t := 108) rfl (AllF.cons (t := 109) rfl (AllF.cons (t := 126) rfl (AllF.cons (t := 127) rfl (AllF.cons (t := 130) rfl (AllF.cons (t := 131) rfl (AllF.cons (t := 132) rfl (AllF.cons (t := 133) rfl (AllF.cons (t := 134) rfl (AllF.cons (t := 135) rfl (AllF.cons (t := 136) rfl (AllF.cons (t := 139) rfl (AllF.cons (t := 140) rfl (AllF.cons (t := 141) rfl (AllF.cons (t := 142) rfl (AllF.cons (t := 143) rfl (AllF.cons (t := 144) rfl (AllF.cons (t := 145) rfl (AllF.cons (t := 163) rfl (AllF.cons (t := 164) rfl (AllF.cons (t := 165) rfl (AllF.cons (t := 166) rfl (AllF.cons (t := 167) rfl (AllF.cons (t := 168) rfl (AllF.cons (t := 169) rfl (AllF.cons (t := 170) rfl (AllF.cons (t := 171) rfl (AllF.cons (t := 172) rfl (AllF.cons (t := 173) rfl (AllF.cons (t := 174) rfl (AllF.cons (t := 175) rfl (AllF.cons (t := 176) rfl (AllF.cons (t := 177) rfl (AllF.cons (t := 178) rfl (AllF.cons (t := 179) rfl (AllF.cons (t := 180) rfl (AllF.cons (t := 181) rfl (AllF.cons (t := 182) rfl (AllF.cons (t := 185) rfl (AllF.cons (t := 186) rfl (AllF.cons (t := 187) rfl (AllF.cons (t := 188) rfl (AllF.cons (t := 189) rfl (AllF.cons (t := 190) rfl (AllF.cons (t := 191) rfl (AllF.cons (t := 192) rfl (AllF.cons (t := 193) rfl (AllF.cons (t := 194) rfl (AllF.cons (t := 195) rfl (AllF.cons (t := 196) rfl (AllF.cons (t := 197) rfl (AllF.cons (t := 198) rfl AllF.nil)))))))))))))))))))))))))))))))))))))))))))))))))))))))))))))))))))))))))))))))))))))))))) ?_
                                                refine T.condF rfl rfl ?_
                                                refine T.skip ?_
                                                refine X.block_normal ?_
                                                refine X.seq_normal ?_
                                                obtain ⟨g131, H⟩ := gd_some H
                                                refine T.regionL (ll := [0, 1]) rfl ?_
                                                refine TO.addG g131 rfl rfl rfl rfl rfl ?_
                                                refine TO.move rfl rfl rfl rfl ?_
                                                refine TO.done ?_
                                                have H := loop_next H C_1
                                                exact X.againE2 n_1 (x88 + 1) H (Nat.lt_succ_self _) (AllF.cons rfl (AllF.cons rfl (AllF.cons rfl (AllF.cons rfl AllF.nil)))) (Pick.cons (Take.tail (Take.head _ _)) (Pick.cons (Take.tail (Take.head _ _)) (Pick.cons (Take.tail (Take.head _ _)) (Pick.cons (Take.tail (Take.head _ _)) (Pick.cons (Take.tail (Take.head _ _)) (Pick.cons (Take.tail (Take.head _ _)) (Pick.cons (Take.tail (Take.head _ _)) (Pick.cons (Take.tail (Take.head _ _)) (Pick.cons (Take.tail (Take.head _ _)) Pick.nil)))))))))
                                      ·
                                        obtain ⟨g132, H⟩ := gd_some H
                                        rcases ite_some H with ⟨g133, H⟩ | ⟨g133, H⟩
                                        ·
                                          obtain ⟨g134, H⟩ := gd_some H
                                          apply T.drawQT [(156, _), (157, _), (158, _), (159, _), (160, _), (161, _), (162, _), (163, _), (164, _), (165, _), (166, _), (167, _), (168, _), (169, _), (170, _), (171, _), (172, _), (173, _), (174, _), (175, _), (176, _), (177, _), (178, _), (179, _), (180, _), (181, _), (182, _), (183, _), (184, _), (185, _), (186, _), (187, _), (188, _), (189, _), (190, _), (191, _), (192, _), (193, _)]
                                          · exact mixed
                                          · kernel_rfl
                                          · kernel_rfl
                                          · exact rfl
                                          · exact rfl
                                          · refine ⟨?_, ?_, ?_, ?_, ?_, ?_, ?_, ?_, ?_, ?_, ?_, ?_, ?_, ?_, ?_, ?_, ?_, ?_, ?_, ?_, ?_, ?_, ?_, ?_, ?_, ?_, ?_, ?_, ?_, ?_, ?_, ?_, ?_, ?_, ?_, ?_, ?_, ?_, trivial⟩
                                            · intro Es
                                              refine TO.fieldAddr0 rfl rfl rfl rfl TWLCsrPairsa.f33_8 ?_
                                              exact TO.done (X.ob rfl (Pick.refl _))
                                            · intro Es
                                              refine TO.load1 rfl rfl rfl rfl TWLCsrPairsa.s31 (List.Mem.tail _ (List.Mem.tail _ (List.Mem.tail _ (List.Mem.head _)))) rfl ?_
                                              exact TO.done (X.ob rfl (Pick.refl _))
                                            · intro Es
                                              refine TO.move rfl rfl rfl rfl ?_
                                              exact TO.done (X.ob rfl (Pick.refl _))
                                            · intro Es
                                              refine TO.ixV hz64 hc62 hn61 g120 rfl rfl rfl rfl rfl TWLCsrPairsa.l31 TWLCsrPairsa.n4 ?_
                                              exact TO.done (X.ob rfl (Pick.refl _))
                                            · intro Es
                                              refine TO.ldBV hz64 hc62 hn61 g120 rfl rfl rfl rfl TWLCsrPairsa.s4 (List.Mem.tail _ (List.Mem.tail _ (List.Mem.tail _ (List.Mem.tail _ (List.Mem.tail _ (List.Mem.tail _ (List.Mem.tail _ (List.Mem.tail _ (List.Mem.tail _ (List.Mem.head _)))))))))) ?_
                                              exact TO.done (X.ob rfl (Pick.refl _))
                                            · intro Es
                                              refine TO.not rfl rfl rfl rfl ?_
                                              exact TO.done (X.ob rfl (Pick.refl _))
                                            · intro Es
                                              refine TO.move rfl rfl rfl rfl ?_
                                              refine TO.decB (t := 162) (b' := false) rfl (Bool.eq_false_iff.2 g121) ?_
                                              exact TO.done (X.ob2 rfl (Pick.refl _))
                                            · intro Es
                                              refine TO.shut rfl rfl rfl rfl ?_
                                              exact TO.done (X.ob rfl (Pick.refl _))
                                            · intro Es
                                              refine TO.shut rfl rfl rfl rfl ?_
                                              exact TO.done (X.ob rfl (Pick.refl _))
                                            · intro Es
                                              refine TO.shut rfl rfl rfl rfl ?_
                                              exact TO.done (X.ob rfl (Pick.refl _))
                                            · intro Es
                                              refine TO.shut rfl rfl rfl rfl ?_
                                              exact TO.done (X.ob rfl (Pick.refl _))
                                            · intro Es
                                              refine TO.shut rfl rfl rfl rfl ?_
                                              exact TO.done (X.ob rfl (Pick.refl _))
                                            · intro Es
                                              refine TO.shutU rfl rfl rfl rfl ?_
                                              exact TO.done (X.ob rfl (Pick.refl _))
                                            · intro Es
                                              refine TO.shutU rfl rfl rfl rfl ?_
                                              exact TO.done (X.ob rfl (Pick.refl _))
                                            · intro Es
                                              refine TO.shutU rfl rfl rfl rfl ?_
                                              exact TO.done (X.ob rfl (Pick.refl _))
                                            · intro Es
                                              refine TO.shutU rfl rfl rfl rfl ?_
                                              exact TO.done (X.ob rfl (Pick.refl _))
                                            · intro Es
                                              refine TO.shut rfl rfl rfl rfl ?_
                                              exact TO.done (X.ob rfl (Pick.refl _))
                                            · intro Es
                                              refine TO.shut rfl rfl rfl rfl ?_
                                              exact TO.done (X.ob rfl (Pick.refl _))
                                            · intro Es
                                              refine TO.shutU rfl rfl rfl rfl ?_
                                              exact TO.done (X.ob rfl (Pick.refl _))
                                            · intro Es
                                              refine TO.shutU rfl rfl rfl rfl ?_
                                              exact TO.done (X.ob rfl (Pick.refl _))
                                            · intro Es
                                              refine TO.shutU rfl rfl rfl rfl ?_
                                              exact TO.done (X.ob rfl (Pick.refl _))
                                            · intro Es
                                              refine TO.shutU rfl rfl rfl rfl ?_
                                              exact TO.done (X.ob rfl (Pick.refl _))
                                            · intro Es
                                              refine TO.shutU rfl rfl rfl rfl ?_
                                              exact TO.done (X.ob rfl (Pick.refl _))
                                            · intro Es
                                              refine TO.shutU rfl rfl rfl rfl ?_
                                              exact TO.done (X.ob rfl (Pick.refl _))
                                            · intro Es
                                              refine TO.shutU rfl rfl rfl rfl ?_
                                              exact TO.done (X.ob rfl (Pick.refl _))
                                            · intro Es
                                              refine TO.shutU rfl rfl rfl rfl ?_
                                              exact TO.done (X.ob rfl (Pick.refl _))
                                            · intro Es
                                              refine TO.shut rfl rfl rfl rfl ?_
                                              exact TO.done (X.ob rfl (Pick.refl _))
                                            · intro Es
                                              refine TO.pickF rfl rfl rfl rfl rfl ?_
                                              exact TO.done (X.ob rfl (Pick.refl _))
                                            · intro Es
                                              refine TO.move rfl rfl rfl rfl ?_
                                              exact TO.done (X.ob rfl (Pick.refl _))
                                            · intro Es
                                              refine TO.fieldAddr0 rfl rfl rfl rfl TWLCsrPairsa.f33_8 ?_
                                              exact TO.done (X.ob rfl (Pick.refl _))
                                            · intro Es
                                              refine TO.load1 rfl rfl rfl rfl TWLCsrPairsa.s31 (List.Mem.tail _ (List.Mem.tail _ (List.Mem.tail _ (List.Mem.head _)))) rfl ?_
                                              exact TO.done (X.ob rfl (Pick.refl _))
                                            · intro Es
                                              refine TO.move rfl rfl rfl rfl ?_
                                              exact TO.done (X.ob rfl (Pick.refl _))
                                            · intro Es
                                              refine TO.ixV hz64 hc62 hn61 g132 rfl rfl rfl rfl rfl TWLCsrPairsa.l31 TWLCsrPairsa.n4 ?_
                                              exact TO.done (X.ob rfl (Pick.refl _))
                                            · intro Es
                                              refine TO.ldBV hz64 hc62 hn61 g132 rfl rfl rfl rfl TWLCsrPairsa.s4 (List.Mem.tail _ (List.Mem.tail _ (List.Mem.tail _ (List.Mem.tail _ (List.Mem.tail _ (List.Mem.tail _ (List.Mem.tail _ (List.Mem.tail _ (List.Mem.tail _ (List.Mem.head _)))))))))) ?_
                                              exact TO.done (X.ob rfl (Pick.refl _))
                                            · intro Es
                                              refine TO.move rfl rfl rfl rfl ?_
                                              refine TO.decB (t := 190) (b' := true) rfl g133 ?_
                                              exact TO.done (X.ob2 rfl (Pick.refl _))
                                            · intro Es
                                              refine TO.fieldAddr0 rfl rfl rfl rfl TWLCsrPairsa.f33_6 ?_
                                              exact TO.done (X.ob rfl (Pick.refl _))
                                            · intro Es
                                              refine TO.load1 rfl rfl rfl rfl TWLCsrPairsa.s25 (List.Mem.tail _ (List.Mem.tail _ (List.Mem.tail _ (List.Mem.head _)))) rfl ?_
                                              exact TO.done (X.ob rfl (Pick.refl _))
                                            · intro Es
                                              refine TO.move rfl rfl rfl rfl ?_
                                              exact TO.done (X.ob rfl (Pick.refl _))
                                          refine TO.ixV hz56 hc54 hn53 g134 rfl rfl rfl rfl rfl TWLCsrPairsa.l25 TWLCsrPairsa.n2 ?_
                                          refine TO.ldIV hz56 hc54 hn53 g134 rfl rfl rfl rfl TWLCsrPairsa.s2 (List.Mem.tail _ (List.Mem.tail _ (List.Mem.tail _ (List.Mem.tail _ (List.Mem.tail _ (List.Mem.tail _ (List.Mem.tail _ (List.Mem.head _)))))))) ?_
                                          refine TO.bin rfl rfl rfl rfl rfl rfl ?_
                                          refine TO.pickT rfl rfl rfl rfl rfl ?_
                                          refine TO.pickF rfl rfl rfl rfl rfl ?_
                                          refine TO.done ?_
                                          refine X.seq_normal ?_
                                          refine T.trim (AllF.cons (t := 1) rfl (AllF.cons (t := 3) rfl (AllF.cons (t := 54) rfl (AllF.cons (t := 55) rfl (AllF.cons (t := 66) rfl (AllF.cons (t := 67) rfl (AllF.cons (t := 68) rfl (AllF.cons (t := 69) rfl (AllF.cons (t := 72) rfl (AllF.cons (t := 73) rfl (AllF.cons (t := 74) rfl (AllF.cons (t := 77) rfl (AllF.cons (t := 78) rfl (AllF.cons (t := 79) rfl (AllF.cons (t := 80) rfl (AllF.cons (t := 81) rfl (AllF.cons (t := 82) rfl (AllF.cons (t := 83) rfl (AllF.cons (t := 86) rfl (AllF.cons (t := 87) rfl (AllF.cons (t := 88) rfl (AllF.cons (t := 89) rfl (AllF.cons (t := 90) rfl (AllF.cons (t := 91) rfl (AllF.cons (t := 92) rfl (AllF.cons (t := 93) rfl (AllF.cons (t := 94) rfl (AllF.cons (t := 95) rfl (AllF.cons (t := 96) rfl (AllF.cons (t := 99) rfl (AllF.cons (t := 100) rfl (AllF.cons (t := 101) rfl (AllF.cons (t := 102) rfl (AllF.cons (t := 103) rfl (AllF.cons (t := 104) rfl (AllF.cons (t := 105) rfl (AllF.cons (t := 106) rfl (AllF.cons (t := 107) rfl (AllF.cons (t := 108) rfl (AllF.cons (t := 109) rfl (AllF.cons (t := 126) rfl (AllF.cons (t := 127) rfl (AllF.cons (t := 130) rfl (AllF.cons (t := 131) rfl (AllF.cons (t := 132) rfl (AllF.cons (t := 133) rfl (AllF.cons (t := 134) rfl (AllF.cons (t := 135) rfl (AllF.cons (t := 136) rfl (AllF.cons (t := 139) rfl (AllF.cons (t := 140) rfl (AllF.cons (t := 141) rfl (AllF.cons (t := 142) rfl (AllF.cons (t := 143) rfl (AllF.cons (t := 144) rfl (AllF.cons (t := 145) rfl (AllF.cons (t := 163) rfl (AllF.cons (t := 164) rfl (AllF.cons (t := 165) rfl (AllF.cons (t := 166) rfl (AllF.cons (t := 167) rfl (AllF.cons (t := 168) rfl (AllF.cons (t := 169) rfl (AllF.cons (t := 170) rfl (AllF.cons (t := 171) rfl (AllF.cons (t := 172) rfl (AllF.cons (t := 173) rfl (AllF.cons (t := 174) rfl (AllF.cons (t := 175) rfl (AllF.cons (t := 176) rfl (AllF.cons (t := 177) rfl (AllF.cons (t := 178) rfl (AllF.cons (t := 179) rfl (AllF.cons (t := 180) rfl (AllF.cons (t := 181) rfl (AllF.cons (t := 182) rfl (AllF.cons (t := 185) rfl (AllF.cons (t := 186) rfl (AllF.cons (t := 187) rfl (AllF.cons (t := 188) rfl (AllF.cons (t := 189) rfl (AllF.cons (t := 190) rfl (AllF.cons (t := 191) rfl (AllF.cons (t := 192) rfl (AllF.cons (t := 193) rfl (AllF.cons (t := 194) rfl (AllF.cons (t := 195) rfl (AllF.cons (t := 196) rfl (AllF.cons (t := 197) rfl (AllF.cons (t := 198) rfl AllF.nil)))))))))))))))))))))))))))))))))))))))))))))))))))))))))))))))))))))))))))))))))))))))))) ?_
                                          rcases ite_some H with ⟨g135, H⟩ | ⟨g135, H⟩
                                          ·
                                            refine T.condPT rfl g135 ?_
                                            refine T.seq ?_
                                            refine T.regionL (ll := [0]) rfl ?_
                                            refine TO.assign rfl rfl rfl rfl ?_
                                            refine TO.done ?_
                                            refine X.seq_normal ?_
                                            refine T.trim (AllF.cons (t := 2) rfl AllF.nil) ?_
                                            refine T.ret ?_
                                            refine X.block_ret ?_
                                            refine X.then_ret ?_
                                            have H := loop_exitE H C_1 ▸ K_1
                                            refine X.then_ret ?_
                                            refine X.block_ret ?_
                                            refine X.then_ret ?_
                                            obtain rfl := ret1 H
                                            exact X.ret1 rfl rfl rfl rfl (Res.tmp rfl) Pick.nil ⟨rfl, rfl⟩
                                          ·
                                            refine T.condPF rfl g135 ?_
                                            refine T.skip ?_
                                            refine X.block_normal ?_
                                            refine X.seq_normal ?_
                                            obtain ⟨g136, H⟩ := gd_some H
                                            refine T.regionL (ll := [0, 1]) rfl ?_
                                            refine TO.addG g136 rfl rfl rfl rfl rfl ?_
                                            refine TO.move rfl rfl rfl rfl ?_
                                            refine TO.done ?_
                                            have H := loop_next H C_1
                                            exact X.againE2 n_1 (x88 + 1) H (Nat.lt_succ_self _) (AllF.cons rfl (AllF.cons rfl (AllF.cons rfl (AllF.cons rfl AllF.nil)))) (Pick.cons (Take.tail (Take.head _ _)) (Pick.cons (Take.tail (Take.head _ _)) (Pick.cons (Take.tail (Take.head _ _)) (Pick.cons (Take.tail (Take.head _ _)) (Pick.cons (Take.tail (Take.head _ _)) (Pick.cons (Take.tail (Take.head _ _)) (Pick.cons (Take.tail (Take.head _ _)) (Pick.cons (Take.tail (Take.head _ _)) (Pick.cons (Take.tail (Take.head _ _)) Pick.nil)))))))))
                                        ·
                                          apply T.drawQT [(156, _), (157, _), (158, _), (159, _), (160, _), (161, _), (162, _), (163, _), (164, _), (165, _), (166, _), (167, _), (168, _), (169, _), (170, _), (171, _), (172, _), (173, _), (174, _), (175, _), (176, _), (177, _), (178, _), (179, _), (180, _), (181, _), (182, _), (183, _), (184, _), (185, _), (186, _), (187, _), (188, _), (189, _), (190, _), (191, _), (192, _), (193, _)]
                                          · exact mixed
                                          · kernel_rfl
                                          · kernel_rfl
                                          · exact rfl
                                          · exact rfl
                                          · refine ⟨?_, ?_, ?_, ?_, ?_, ?_, ?_, ?_, ?_, ?_, ?_, ?_, ?_, ?_, ?_, ?_, ?_, ?_, ?_, ?_, ?_, ?_, ?_, ?_, ?_, ?_, ?_, ?_, ?_, ?_, ?_, ?_, ?_, ?_, ?_, ?_, ?_, ?_, trivial⟩
                                            · intro Es
                                              refine TO.fieldAddr0 rfl rfl rfl rfl TWLCsrPairsa.f33_8 ?_
                                              exact TO.done (X.ob rfl (Pick.refl _))
                                            · intro Es
                                              refine TO.load1 rfl rfl rfl rfl TWLCsrPairsa.s31 (List.Mem.tail _ (List.Mem.tail _ (List.Mem.tail _ (List.Mem.head _)))) rfl ?_
                                              exact TO.done (X.ob rfl (Pick.refl _))
                                            · intro Es
                                              refine TO.move rfl rfl rfl rfl ?_
                                              exact TO.done (X.ob rfl (Pick.refl _))
                                            · intro Es
                                              refine TO.ixV hz64 hc62 hn61 g120 rfl rfl rfl rfl rfl TWLCsrPairsa.l31 TWLCsrPairsa.n4 ?_
                                              exact TO.done (X.ob rfl (Pick.refl _))
                                            · intro Es
                                              refine TO.ldBV hz64 hc62 hn61 g120 rfl rfl rfl rfl TWLCsrPairsa.s4 (List.Mem.tail _ (List.Mem.tail _ (List.Mem.tail _ (List.Mem.tail _ (List.Mem.tail _ (List.Mem.tail _ (List.Mem.tail _ (List.Mem.tail _ (List.Mem.tail _ (List.Mem.head _)))))))))) ?_
                                              exact TO.done (X.ob rfl (Pick.refl _))
                                            · intro Es
                                              refine TO.not rfl rfl rfl rfl ?_
                                              exact TO.done (X.ob rfl (Pick.refl _))
                                            · intro Es
                                              refine TO.move rfl rfl rfl rfl ?_
                                              refine TO.decB (t := 162) (b' := false) rfl (Bool.eq_false_iff.2 g121) ?_
                                              exact TO.done (X.ob2 rfl (Pick.refl _))
                                            · intro Es
                                              refine TO.shut rfl rfl rfl rfl ?_
                                              exact TO.done (X.ob rfl (Pick.refl _))
                                            · intro Es
                                              refine TO.shut rfl rfl rfl rfl ?_
                                              exact TO.done (X.ob rfl (Pick.refl _))
                                            · intro Es
                                              refine TO.shut rfl rfl rfl rfl ?_
                                              exact TO.done (X.ob rfl (Pick.refl _))
                                            · intro Es
                                              refine TO.shut rfl rfl rfl rfl ?_
                                              exact TO.done (X.ob rfl (Pick.refl _))
                                            · intro Es
                                              refine TO.shut rfl rfl rfl rfl ?_
                                              exact TO.done (X.ob rfl (Pick.refl _))
                                            · intro Es
                                              refine TO.shutU rfl rfl rfl rfl ?_
                                              exact TO.done (X.ob rfl (Pick.refl _))
                                            · intro Es
                                              refine TO.shutU rfl rfl rfl rfl ?_
                                              exact TO.done (X.ob rfl (Pick.refl _))
                                            · intro Es
                                              refine TO.shutU rfl rfl rfl rfl ?_
                                              exact TO.done (X.ob rfl (Pick.refl _))
                                            · intro Es
                                              refine TO.shutU rfl rfl rfl rfl ?_
                                              exact TO.done (X.ob rfl (Pick.refl _))
                                            · intro Es
                                              refine TO.shut rfl rfl rfl rfl ?_
                                              exact TO.done (X.ob rfl (Pick.refl _))
                                            · intro Es
                                              refine TO.shut rfl rfl rfl rfl ?_
                                              exact TO.done (X.ob rfl (Pick.refl _))
                                            · intro Es
                                              refine TO.shutU rfl rfl rfl rfl ?_
                                              exact TO.done (X.ob rfl (Pick.refl _))
                                            · intro Es
                                              refine TO.shutU rfl rfl rfl rfl ?_
                                              exact TO.done (X.ob rfl (Pick.refl _))
                                            · intro Es
                                              refine TO.shutU rfl rfl rfl rfl ?_
                                              exact TO.done (X.ob rfl (Pick.refl _))
                                            · intro Es
                                              refine TO.shutU rfl rfl rfl rfl ?_
                                              exact TO.done (X.ob rfl (Pick.refl _))
                                            · intro Es
                                              refine TO.shutU rfl rfl rfl rfl ?_
                                              exact TO.done (X.ob rfl (Pick.refl _))
                                            · intro Es
                                              refine TO.shutU rfl rfl rfl rfl ?_
                                              exact TO.done (X.ob rfl (Pick.refl _))
                                            · intro Es
                                              refine TO.shutU rfl rfl rfl rfl ?_
                                              exact TO.done (X.ob rfl (Pick.refl _))
                                            · intro Es
                                              refine TO.shutU rfl rfl rfl rfl ?_
                                              exact TO.done (X.ob rfl (Pick.refl _))
                                            · intro Es
                                              refine TO.shut rfl rfl rfl rfl ?_
                                              exact TO.done (X.ob rfl (Pick.refl _))
                                            · intro Es
                                              refine TO.pickF rfl rfl rfl rfl rfl ?_
                                              exact TO.done (X.ob rfl (Pick.refl _))
                                            · intro Es
                                              refine TO.move rfl rfl rfl rfl ?_
                                              exact TO.done (X.ob rfl (Pick.refl _))
                                            · intro Es
                                              refine TO.fieldAddr0 rfl rfl rfl rfl TWLCsrPairsa.f33_8 ?_
                                              exact TO.done (X.ob rfl (Pick.refl _))
                                            · intro Es
                                              refine TO.load1 rfl rfl rfl rfl TWLCsrPairsa.s31 (List.Mem.tail _ (List.Mem.tail _ (List.Mem.tail _ (List.Mem.head _)))) rfl ?_
                                              exact TO.done (X.ob rfl (Pick.refl _))
                                            · intro Es
                                              refine TO.move rfl rfl rfl rfl ?_
                                              exact TO.done (X.ob rfl (Pick.refl _))
                                            · intro Es
                                              refine TO.ixV hz64 hc62 hn61 g132 rfl rfl rfl rfl rfl TWLCsrPairsa.l31 TWLCsrPairsa.n4 ?_
                                              exact TO.done (X.ob rfl (Pick.refl _))
                                            · intro Es
                                              refine TO.ldBV hz64 hc62 hn61 g132 rfl rfl rfl rfl TWLCsrPairsa.s4 (List.Mem.tail _ (List.Mem.tail _ (List.Mem.tail _ (List.Mem.tail _ (List.Mem.tail _ (List.Mem.tail _ (List.Mem.tail _ (List.Mem.tail _ (List.Mem.tail _ (List.Mem.head _)))))))))) ?_
                                              exact TO.done (X.ob rfl (Pick.refl _))
                                            · intro Es
                                              refine TO.move rfl rfl rfl rfl ?_
                                              refine TO.decB (t := 190) (b' := false) rfl (Bool.eq_false_iff.2 g133) ?_
                                              exact TO.done (X.ob2 rfl (Pick.refl _))
                                            · intro Es
                                              refine TO.shut rfl rfl rfl rfl ?_
                                              exact TO.done (X.ob rfl (Pick.refl _))
                                            · intro Es
                                              refine TO.shut rfl rfl rfl rfl ?_
                                              exact TO.done (X.ob rfl (Pick.refl _))
                                            · intro Es
                                              refine TO.shut rfl rfl rfl rfl ?_
                                              exact TO.done (X.ob rfl (Pick.refl _))
                                          refine TO.shut rfl rfl rfl rfl ?_
                                          refine TO.shut rfl rfl rfl rfl ?_
                                          refine TO.shut rfl rfl rfl rfl ?_
                                          refine TO.pickF rfl rfl rfl rfl rfl ?_
                                          refine TO.pickF rfl rfl rfl rfl rfl ?_
                                          refine TO.done ?_
                                          refine X.seq_normal ?_
                                          refine T.trim (AllF.cons (t := 1) rfl (AllF.cons (t := 3) rfl (AllF.cons (t := 54) rfl (AllF.cons (t := 55) rfl (AllF.cons (t := 66) rfl (AllF.cons (t := 67) rfl (AllF.cons (t := 68) rfl (AllF.cons (t := 69) rfl (AllF.cons (t := 72) rfl (AllF.cons (t := 73) rfl (AllF.cons (t := 74) rfl (AllF.cons (t := 77) rfl (AllF.cons (t := 78) rfl (AllF.cons (t := 79) rfl (AllF.cons (t := 80) rfl (AllF.cons (t := 81) rfl (AllF.cons (t := 82) rfl (AllF.cons (t := 83) rfl (AllF.cons (t := 86) rfl (AllF.cons (t := 87) rfl (AllF.cons (t := 88) rfl (AllF.cons (t := 89) rfl (AllF.cons (t := 90) rfl (AllF.cons (t := 91) rfl (AllF.cons (t := 92) rfl (AllF.cons (t := 93) rfl (AllF.cons (t := 94) rfl (AllF.cons (t := 95) rfl (AllF.cons (t := 96) rfl (AllF.cons (t := 99) rfl (AllF.cons (t := 100) rfl (AllF.cons (t := 101) rfl (AllF.cons (t := 102) rfl (AllF.cons (t := 103) rfl (AllF.cons (t := 104) rfl (AllF.cons (t := 105) rfl (AllF.cons (t := 106) rfl (AllF.cons (t := 107) rfl (AllF.cons (t := 108) rfl (AllF.cons (t := 109) rfl (AllF.cons (t := 126) rfl (AllF.cons (t := 127) rfl (AllF.cons (t := 130) rfl (AllF.cons (t := 131) rfl (AllF.cons (t := 132) rfl (AllF.cons (t := 133) rfl (AllF.cons (t := 134) rfl (AllF.cons (t := 135) rfl (AllF.cons (t := 136) rfl (AllF.cons (t := 139) rfl (AllF.cons (t := 140) rfl (AllF.cons (t := 141) rfl (AllF.cons (t := 142) rfl (AllF.cons (t := 143) rfl (AllF.cons (t := 144) rfl (AllF.cons (t := 145) rfl (AllF.cons (t := 163) rfl (AllF.cons (t := 164) rfl (AllF.cons (t := 165) rfl (AllF.cons (t := 166) rfl (AllF.cons (t := 167) rfl (AllF.cons (t := 168) rfl (AllF.cons (t := 169) rfl (AllF.cons (t := 170) rfl (AllF.cons (t := 171) rfl (AllF.cons (t := 172) rfl (AllF.cons (t := 173) rfl (AllF.cons (t := 174) rfl (AllF.cons (t := 175) rfl (AllF.cons (t := 176) rfl (AllF.cons (t := 177) rfl (AllF.cons (t := 178) rfl (AllF.cons (t := 179) rfl (AllF.cons (t := 180) rfl (AllF.cons (t := 181) rfl (AllF.cons (t := 182) rfl (AllF.cons (t := 185) rfl (AllF.cons (t := 186) rfl (AllF.cons (t := 187) rfl (AllF.cons (t := 188) rfl (AllF.cons (t := 189) rfl (AllF.cons (t := 190) rfl (AllF.cons (t := 191) rfl (AllF.cons (t := 192) rfl (AllF.cons (t := 193) rfl (AllF.cons (t := 194) rfl (AllF.cons (t := 195) rfl (AllF.cons (t := 196) rfl (AllF.cons (t := 197) rfl (AllF.cons (t := 198) rfl AllF.nil)))))))))))))))))))))))))))))))))))))))))))))))))))))))))))))))))))))))))))))))))))))))))) ?_
                                          refine T.condF rfl rfl ?_
                                          refine T.skip ?_
                                          refine X.block_normal ?_
                                          refine X.seq_normal ?_
                                          obtain ⟨g137, H⟩ := gd_some H
                                          refine T.regionL (ll := [0, 1]) rfl ?_
                                          refine TO.addG g137 rfl rfl rfl rfl rfl ?_
                                          refine TO.move rfl rfl rfl rfl ?_
                                          refine TO.done ?_
                                          have H := loop_next H C_1
                                          exact X.againE2 n_1 (x88 + 1) H (Nat.lt_succ_self _) (AllF.cons rfl (AllF.cons rfl (AllF.cons rfl (AllF.cons rfl AllF.nil)))) (Pick.cons (Take.tail (Take.head _ _)) (Pick.cons (Take.tail (Take.head _ _)) (Pick.cons (Take.tail (Take.head _ _)) (Pick.cons (Take.tail (Take.head _ _)) (Pick.cons (Take.tail (Take.head _ _)) (Pick.cons (Take.tail (Take.head _ _)) (Pick.cons (Take.tail (Take.head _ _)) (Pick.cons (Take.tail (Take.head _ _)) (Pick.cons (Take.tail (Take.head _ _)) Pick.nil)))))))))
              ·
                refine T.condPF rfl g89 ?_
                refine T.exit ?_
                refine X.then_exit ?_
                have H := loop_exitE H C_1 ▸ K_1
                refine X.then_exit ?_
                refine X.block_here ?_
                exact X.metE1 () H AllF.nil Pick.nil
            · rintro u138 H
              unfold m_acequialaw02_CsrPairs_j2 at H
              refine T.seq ?_
              obtain ⟨r139, e140, H⟩ := bd_some H
              refine T.regionL (ll := [0, 1]) rfl ?_
              refine TO.callX TWLCsrPairsa.c23 rfl rfl rfl rfl (fun wc hwc => w_acequialaw02_awake  wc  e140) ?_
              rintro _ _ ⟨rfl, rfl⟩
              refine TO.assign rfl rfl rfl rfl ?_
              refine TO.done ?_
              refine X.seq_normal ?_
              refine T.ret ?_
              obtain rfl := ret1 H
              exact X.ret1 rfl rfl rfl rfl (Res.tmp rfl) Pick.nil ⟨rfl, rfl⟩
end Go.Proofs.Ytcdbemdogkmahaa.Ax
