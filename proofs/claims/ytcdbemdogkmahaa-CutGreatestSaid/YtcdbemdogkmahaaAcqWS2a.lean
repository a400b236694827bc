/- What a call does is what its model says: acequialaw01.Four, acequialaw02.awake, acequialow.Bools, acequialow.Ints, acequialow.Longs, csr.Flow, csr.Flow$1, csr.Res, csr.Tail, slices.ContainsFunc[[]int,int], slices.IndexFunc[[]int,int], sort.Search, sort.SearchInts, sort.SearchInts$1. (Printed by sx.py.) -/
import Derived.Test.YtcdbemdogkmahaaAcqMS2
import Derived.Test.YtcdbemdogkmahaaAcqRf
import Derived.Test.YtcdbemdogkmahaaAcqWS2
namespace Go.Proofs.Ytcdbemdogkmahaa.Ax
open Go Go.Acq Go.RowKit Go.Proofs
set_option linter.unusedVariables false
set_option linter.unusedSimpArgs false
set_option maxHeartbeats 8000000
set_option maxRecDepth 20000
theorem TWS2a.a24 : aggT Try.prog 24 4 = true := by kernel_rfl
theorem TWS2a.a33 : aggT Try.prog 33 9 = true := by kernel_rfl
theorem TWS2a.b2 : bytesT Try.prog 2 = some 8 := by kernel_rfl
theorem TWS2a.c22 : callable Try.prog 22 = true := by kernel_rfl
theorem TWS2a.f33_6 : fieldT Try.prog 33 6 = some 6 := by kernel_rfl
theorem TWS2a.f33_7 : fieldT Try.prog 33 7 = some 7 := by kernel_rfl
theorem TWS2a.f33_8 : fieldT Try.prog 33 8 = some 8 := by kernel_rfl
theorem TWS2a.l22 : sliceT Try.prog 22 = some 28 := by kernel_rfl
theorem TWS2a.l25 : sliceT Try.prog 25 = some 2 := by kernel_rfl
theorem TWS2a.l30 : sliceT Try.prog 30 = some 3 := by kernel_rfl
theorem TWS2a.l31 : sliceT Try.prog 31 = some 4 := by kernel_rfl
theorem TWS2a.n2 : sizeT Try.prog 2 = some 1 := by kernel_rfl
theorem TWS2a.n24 : sizeT Try.prog 24 = some 4 := by kernel_rfl
theorem TWS2a.n28 : sizeT Try.prog 28 = some 3 := by kernel_rfl
theorem TWS2a.n3 : sizeT Try.prog 3 = some 1 := by kernel_rfl
theorem TWS2a.n4 : sizeT Try.prog 4 = some 1 := by kernel_rfl
theorem TWS2a.s2 : scalT Try.prog 2 = true := by kernel_rfl
theorem TWS2a.s25 : scalT Try.prog 25 = true := by kernel_rfl
theorem TWS2a.s3 : scalT Try.prog 3 = true := by kernel_rfl
theorem TWS2a.s30 : scalT Try.prog 30 = true := by kernel_rfl
theorem TWS2a.s31 : scalT Try.prog 31 = true := by kernel_rfl
theorem TWS2a.s4 : scalT Try.prog 4 = true := by kernel_rfl
theorem TWS2a.u4 : Try.prog.underlying 4 = some .bool := by kernel_rfl
theorem TWS2a.z2 : zeroT Try.prog 2 = some (.int .i64 0) := by kernel_rfl
theorem TWS2a.z24 : zeroT Try.prog 24 = some (.agg #[.int .i64 0, .int .i64 0, .int .i64 0, .slice none 0 0]) := by kernel_rfl
theorem TWS2a.z28 : zeroT Try.prog 28 = some (.agg #[.int .i64 0, .int .i64 0, .int .i64 0]) := by kernel_rfl
/-- acequia/csr.Res -/
theorem w_csr_Res {c0 : Csr} {f1 : List Int} {c0_First_b : Option Addr} {c0_First_n : Nat} {c0_First_c : Nat} {c0_Head_b : Option Addr} {c0_Head_n : Nat} {c0_Head_c : Nat} {c0_Rev_b : Option Addr} {c0_Rev_n : Nat} {c0_Rev_c : Nat} {c0_Cap_b : Option Addr} {c0_Cap_n : Nat} {c0_Cap_c : Nat} {c0_Arc_b : Option Addr} {c0_Arc_n : Nat} {c0_Arc_c : Nat} {c0_Back_b : Option Addr} {c0_Back_n : Nat} {c0_Back_c : Nat} {f1_b : Option Addr} {f1_n : Nat} {f1_c : Nat} (w : World) (h_c0_First : RS w [] (intC .i64) 1 c0_First_b c0_First_n c0_First_c c0.First) (h_c0_Head : RS w [] (intC .i64) 1 c0_Head_b c0_Head_n c0_Head_c c0.Head) (h_c0_Rev : RS w [] (intC .i64) 1 c0_Rev_b c0_Rev_n c0_Rev_c c0.Rev) (h_c0_Cap : RS w [] (intC .i64) 1 c0_Cap_b c0_Cap_n c0_Cap_c c0.Cap) (h_c0_Arc : RS w [] (intC .i64) 1 c0_Arc_b c0_Arc_n c0_Arc_c c0.Arc) (h_c0_Back : RS w [] boolC 1 c0_Back_b c0_Back_n c0_Back_c c0.Back) (h_f1 : RS w [] (intC .i64) 1 f1_b f1_n f1_c f1) {r0 : List Int} {r1 : Int} (H : m_csr_Res c0 f1 = some (r0, r1)) : Fnc Try.prog 20 #[.agg #[.int .i64 c0.N, .int .i64 c0.S, .int .i64 c0.T, .slice c0_First_b c0_First_n c0_First_c, .slice c0_Head_b c0_Head_n c0_Head_c, .slice c0_Rev_b c0_Rev_n c0_Rev_c, .slice c0_Cap_b c0_Cap_n c0_Cap_c, .slice c0_Arc_b c0_Arc_n c0_Arc_c, .slice c0_Back_b c0_Back_n c0_Back_c], .slice f1_b f1_n f1_c] w [] (fun v N => ∃ (ob_0 : Option Nat) (n_0 : Nat) (c_0 : Nat) (j_0 : List Value), v = .tuple #[.slice (sb ob_0) n_0 c_0, .int .i64 r1] ∧ N = [(ob_0, .cells (arr (intC .i64) r0 j_0).toArray 2 (0, 0))] ∧ r0.length = n_0 ∧ n_0 ≤ c_0 ∧ j_0.length = (c_0 - n_0) * 1 ∧ (ob_0 = none → c_0 = 0)) := by
  unfold m_csr_Res at H
  refine Fnc.enter (vs := [.agg #[.int .i64 c0.N, .int .i64 c0.S, .int .i64 c0.T, .slice c0_First_b c0_First_n c0_First_c, .slice c0_Head_b c0_Head_n c0_Head_c, .slice c0_Rev_b c0_Rev_n c0_Rev_c, .slice c0_Cap_b c0_Cap_n c0_Cap_c, .slice c0_Arc_b c0_Arc_n c0_Arc_c, .slice c0_Back_b c0_Back_n c0_Back_c], .slice f1_b f1_n f1_c]) Try.func20 rfl rfl (Inv.refl w) ?_
  refine T.seq ?_
  refine T.regionL (ll := [0, 1, 2]) rfl ?_
  refine TO.boxA rfl rfl rfl rfl ?_; intro b1
  refine TO.assign rfl rfl rfl rfl ?_
  refine TO.assign rfl rfl rfl rfl ?_
  refine TO.done ?_
  refine X.seq_normal ?_
  refine T.seq ?_
  obtain ⟨r3, e4, H⟩ := bd_some H
  obtain ⟨g5, H⟩ := gd_some H
  refine T.regionL (ll := [0, 1, 2, 3]) rfl ?_
  refine TO.loadA rfl rfl rfl rfl TWS2a.a33 (List.Mem.head _) rfl ?_
  refine TO.callX TWS2a.c22 rfl rfl rfl rfl (fun wc hwc => w_csr_Len (c0 := c0) wc (h_c0_First.mono hwc) (h_c0_Head.mono hwc) (h_c0_Rev.mono hwc) (h_c0_Cap.mono hwc) (h_c0_Arc.mono hwc) (h_c0_Back.mono hwc) e4) ?_
  rintro _ _ ⟨rfl, rfl⟩
  refine TO.mkI g5 rfl rfl rfl rfl rfl TWS2a.l25 TWS2a.n2 TWS2a.z2 TWS2a.b2 rfl ?_; intro b6
  refine TO.assign rfl rfl rfl rfl ?_
  refine TO.done ?_
  refine X.seq_normal ?_
  refine T.seq ?_
  refine T.seq ?_
  refine T.regionL (ll := [0, 1, 2]) rfl ?_
  refine TO.move rfl rfl rfl rfl ?_
  refine TO.lenX (xs := (List.replicate r3.toNat (0 : Int))) List.length_replicate rfl rfl rfl rfl rfl TWS2a.l25 ?_
  refine TO.move rfl rfl rfl rfl ?_
  refine TO.done ?_
  refine X.seq_normal ?_
  refine T.meetSE1 (fun (xs30 : List Int) => m_csr_Res_j3 xs30 = some (r0, r1) ∧ xs30.length = r3.toNat) (fun (xs30 : List Int) => [(6, .slice (some ⟨b6, 0, none⟩) r3.toNat r3.toNat)]) (fun (xs30 : List Int) => [(some b6, .cells (arr (intC .i64) xs30 ([])).toArray 2 (0, 0))]) ?_ ?_
  ·
    refine T.block ?_
    obtain ⟨o_1, e_1, K_1⟩ := bd_some H
    refine T.loopE3 (fun (m_1 : Nat) (xs8 : List Int) (x10 : Int) => loopM (fun s => m_csr_Res_s1 c0 f1 r3 s.1 s.2) m_1 (xs8, x10) = some o_1 ∧ xs8.length = r3.toNat) (fun (m_1 : Nat) (xs8 : List Int) (x10 : Int) => [(1, .slice f1_b f1_n f1_c), (2, .pointer (some ⟨b1, 0, none⟩)), (6, .slice (some ⟨b6, 0, none⟩) r3.toNat r3.toNat), (13, .int .i64 ((List.replicate r3.toNat (0 : Int)).length : Int)), (14, .int .i64 x10)]) (fun (m_1 : Nat) (xs8 : List Int) (x10 : Int) => [(some b1, .cells #[.int .i64 c0.N, .int .i64 c0.S, .int .i64 c0.T, .slice c0_First_b c0_First_n c0_First_c, .slice c0_Head_b c0_Head_n c0_Head_c, .slice c0_Rev_b c0_Rev_n c0_Rev_c, .slice c0_Cap_b c0_Cap_n c0_Cap_c, .slice c0_Arc_b c0_Arc_n c0_Arc_c, .slice c0_Back_b c0_Back_n c0_Back_c] 33 (0, 0)), (some b6, .cells (arr (intC .i64) xs8 ([])).toArray 2 (0, 0))]) (fun (m_1 : Nat) (xs8 : List Int) (x10 : Int) => m_1) FUEL (List.replicate r3.toNat (0 : Int)) 0 ⟨e_1, List.length_replicate⟩ (AllF.cons rfl (AllF.cons rfl (AllF.cons rfl (AllF.cons rfl (AllF.cons rfl AllF.nil))))) (Pick.cons (Take.tail (Take.head _ _)) (Pick.cons (Take.head _ _) Pick.nil)) ?_
    rintro m_1 xs8 x10 ⟨H, hn9⟩
    obtain ⟨n_1, r_1, rfl, H, C_1⟩ := loopM_some H
    have H : m_csr_Res_s1 c0 f1 r3 xs8 x10 = some r_1 := H
    unfold m_csr_Res_s1 at H
    refine T.seq ?_
    refine T.regionL (ll := [0]) rfl ?_
    refine TO.bin rfl rfl rfl rfl rfl rfl ?_
    refine TO.done ?_
    refine X.seq_normal ?_
    refine T.seq ?_
    rcases ite_some H with ⟨g11, H⟩ | ⟨g11, H⟩
    ·
      refine T.condPT rfl g11 ?_
      refine T.skip ?_
      refine X.seq_normal ?_
      refine T.seq ?_
      refine T.block ?_
      refine T.seq ?_
      refine T.regionL (ll := [0, 1]) rfl ?_
      refine TO.move rfl rfl rfl rfl ?_
      refine TO.assign rfl rfl rfl rfl ?_
      refine TO.done ?_
      refine X.seq_normal ?_
      refine T.seq ?_
      obtain ⟨g12, H⟩ := gd_some H
      refine T.regionL (ll := [0, 1, 2, 3, 4, 5]) rfl ?_
      refine TO.fieldAddr0 rfl rfl rfl rfl TWS2a.f33_7 ?_
      refine TO.load1 rfl rfl rfl rfl TWS2a.s30 (List.Mem.head _) rfl ?_
      refine TO.move rfl rfl rfl rfl ?_
      refine TO.ixR h_c0_Arc g12 rfl rfl rfl rfl rfl TWS2a.l30 TWS2a.n3 ?_
      refine TO.ldIR h_c0_Arc g12 rfl rfl rfl rfl TWS2a.s3 ?_
      refine TO.assign rfl rfl rfl rfl ?_
      refine TO.done ?_
      refine X.seq_normal ?_
      refine T.block ?_
      refine T.seq ?_
      refine T.regionL (ll := [0, 1, 2, 3, 4]) rfl ?_
      refine TO.move rfl rfl rfl rfl ?_
      refine TO.move rfl rfl rfl rfl ?_
      refine TO.lenX (xs := f1) h_f1.len rfl rfl rfl rfl rfl TWS2a.l25 ?_
      refine TO.bin rfl rfl rfl rfl rfl rfl ?_
      refine TO.assign rfl rfl rfl rfl ?_
      refine TO.done ?_
      refine X.seq_normal ?_
      refine T.trim (AllF.cons (t := 1) rfl (AllF.cons (t := 2) rfl (AllF.cons (t := 6) rfl (AllF.cons (t := 13) rfl (AllF.cons (t := 14) rfl (AllF.cons (t := 7) rfl (AllF.cons (t := 8) rfl (AllF.cons (t := 35) rfl AllF.nil)))))))) ?_
      rcases ite_some H with ⟨g13, H⟩ | ⟨g13, H⟩
      ·
        refine T.condPT rfl g13 ?_
        refine T.seq ?_
        refine T.regionL (ll := [0, 1]) rfl ?_
        refine TO.assign rfl rfl rfl rfl ?_
        refine TO.assign rfl rfl rfl rfl ?_
        refine TO.done ?_
        refine X.seq_normal ?_
        refine T.trim (AllF.cons (t := 4) rfl (AllF.cons (t := 5) rfl AllF.nil)) ?_
        refine T.ret ?_
        refine X.block_ret ?_
        refine X.block_ret ?_
        refine X.then_ret ?_
        have H := loop_exitE H C_1 ▸ K_1
        refine X.then_ret ?_
        refine X.block_ret ?_
        refine X.then_ret ?_
        obtain ⟨rfl, rfl⟩ := ret2 H
        exact X.ret2 rfl rfl rfl rfl (Res.tmp rfl) (Res.tmp rfl) (Pick.none Pick.nil) ⟨none, 0, 0, ([]), rfl, rfl, rfl, (Nat.le_refl _), (zeroJ 0 _), (fun _ => rfl)⟩
      ·
        refine T.condPF rfl g13 ?_
        refine T.seq ?_
        obtain ⟨g14, H⟩ := gd_some H
        refine T.regionL (ll := [0, 1, 2, 3, 4, 5]) rfl ?_
        refine TO.fieldAddr0 rfl rfl rfl rfl TWS2a.f33_8 ?_
        refine TO.load1 rfl rfl rfl rfl TWS2a.s31 (List.Mem.head _) rfl ?_
        refine TO.move rfl rfl rfl rfl ?_
        refine TO.ixR h_c0_Back g14 rfl rfl rfl rfl rfl TWS2a.l31 TWS2a.n4 ?_
        refine TO.ldBR h_c0_Back g14 rfl rfl rfl rfl TWS2a.s4 ?_
        refine TO.assign rfl rfl rfl rfl ?_
        refine TO.done ?_
        refine X.seq_normal ?_
        rcases ite_some H with ⟨g15, H⟩ | ⟨g15, H⟩
        ·
          refine T.condT rfl g15 ?_
          obtain ⟨g16, H⟩ := gd_some H
          obtain ⟨g17, H⟩ := gd_some H
          refine T.regionL (ll := [0, 1, 2, 3, 4, 5, 6, 7]) rfl ?_
          refine TO.move rfl rfl rfl rfl ?_
          refine TO.move rfl rfl rfl rfl ?_
          refine TO.move rfl rfl rfl rfl ?_
          refine TO.move rfl rfl rfl rfl ?_
          refine TO.ixR h_f1 g16 rfl rfl rfl rfl rfl TWS2a.l25 TWS2a.n2 ?_
          refine TO.ldIR h_f1 g16 rfl rfl rfl rfl TWS2a.s2 ?_
          refine TO.ix1 hn9 g17 rfl rfl rfl rfl rfl TWS2a.l25 TWS2a.n2 ?_
          refine TO.stIO g17 rfl rfl rfl rfl (Take.tail (Take.head _ _)) TWS2a.n2 ?_
          refine TO.done ?_
          refine X.block_normal ?_
          refine X.block_normal ?_
          refine X.seq_normal ?_
          refine T.trim (AllF.cons (t := 1) rfl (AllF.cons (t := 2) rfl (AllF.cons (t := 6) rfl (AllF.cons (t := 13) rfl (AllF.cons (t := 14) rfl AllF.nil))))) ?_
          obtain ⟨g18, H⟩ := gd_some H
          refine T.regionL (ll := [0, 1]) rfl ?_
          refine TO.addG g18 rfl rfl rfl rfl rfl ?_
          refine TO.move rfl rfl rfl rfl ?_
          refine TO.done ?_
          have H := loop_next H C_1
          exact X.againE3 n_1 (xs8.set x10.toNat (f1.getD (c0.Arc.getD x10.toNat 0).toNat 0)) (x10 + 1) ⟨H, (List.length_set.trans hn9)⟩ (Nat.lt_succ_self _) (AllF.cons rfl (AllF.cons rfl (AllF.cons rfl (AllF.cons rfl (AllF.cons rfl AllF.nil))))) (Pick.cons (Take.tail (Take.head _ _)) (Pick.cons (Take.head _ _) Pick.nil))
        ·
          refine T.condF rfl (Bool.eq_false_iff.2 g15) ?_
          refine T.seq ?_
          refine T.meetSE1 (fun (x23 : Bool) => m_csr_Res_j2 c0 f1 xs8 x10 x23 = some r_1) (fun (x23 : Bool) => [(1, .slice f1_b f1_n f1_c), (2, .pointer (some ⟨b1, 0, none⟩)), (6, .slice (some ⟨b6, 0, none⟩) r3.toNat r3.toNat), (7, .int .i64 x10), (8, .int .i64 (c0.Arc.getD x10.toNat 0)), (13, .int .i64 ((List.replicate r3.toNat (0 : Int)).length : Int)), (14, .int .i64 x10), (53, .bool x23)]) (fun (x23 : Bool) => [(some b1, .cells #[.int .i64 c0.N, .int .i64 c0.S, .int .i64 c0.T, .slice c0_First_b c0_First_n c0_First_c, .slice c0_Head_b c0_Head_n c0_Head_c, .slice c0_Rev_b c0_Rev_n c0_Rev_c, .slice c0_Cap_b c0_Cap_n c0_Cap_c, .slice c0_Arc_b c0_Arc_n c0_Arc_c, .slice c0_Back_b c0_Back_n c0_Back_c] 33 (0, 0)), (some b6, .cells (arr (intC .i64) xs8 ([])).toArray 2 (0, 0))]) ?_ ?_
          ·
            obtain ⟨g19, H⟩ := gd_some H
            rcases ite_some H with ⟨g20, H⟩ | ⟨g20, H⟩
            ·
              apply T.drawQT [(54, _), (55, _), (56, _), (57, _), (58, _), (59, _), (60, _), (61, _), (62, _), (63, _), (64, _), (65, _), (66, _), (67, _), (68, _)]
              · exact mixed
              · kernel_rfl
              · kernel_rfl
              · exact rfl
              · exact rfl
              · refine ⟨?_, ?_, ?_, ?_, ?_, ?_, ?_, ?_, ?_, ?_, ?_, ?_, ?_, ?_, ?_, trivial⟩
                · intro Es
                  refine TO.move rfl rfl rfl rfl ?_
                  exact TO.done (X.ob rfl (Pick.refl _))
                · intro Es
                  refine TO.move rfl rfl rfl rfl ?_
                  exact TO.done (X.ob rfl (Pick.refl _))
                · intro Es
                  refine TO.ixR h_f1 g19 rfl rfl rfl rfl rfl TWS2a.l25 TWS2a.n2 ?_
                  exact TO.done (X.ob rfl (Pick.refl _))
                · intro Es
                  refine TO.ldIR h_f1 g19 rfl rfl rfl rfl TWS2a.s2 ?_
                  exact TO.done (X.ob rfl (Pick.refl _))
                · intro Es
                  refine TO.bin rfl rfl rfl rfl rfl rfl ?_
                  exact TO.done (X.ob rfl (Pick.refl _))
                · intro Es
                  refine TO.move rfl rfl rfl rfl ?_
                  refine TO.decB (t := 59) (b' := true) rfl (decide_eq_true g20) ?_
                  exact TO.done (X.ob2 rfl (Pick.refl _))
                · intro Es
                  refine TO.shut rfl rfl rfl rfl ?_
                  exact TO.done (X.ob rfl (Pick.refl _))
                · intro Es
                  refine TO.shut rfl rfl rfl rfl ?_
                  exact TO.done (X.ob rfl (Pick.refl _))
                · intro Es
                  refine TO.shut rfl rfl rfl rfl ?_
                  exact TO.done (X.ob rfl (Pick.refl _))
                · intro Es
                  refine TO.shut rfl rfl rfl rfl ?_
                  exact TO.done (X.ob rfl (Pick.refl _))
                · intro Es
                  refine TO.shut rfl rfl rfl rfl ?_
                  exact TO.done (X.ob rfl (Pick.refl _))
                · intro Es
                  refine TO.shut rfl rfl rfl rfl ?_
                  exact TO.done (X.ob rfl (Pick.refl _))
                · intro Es
                  refine TO.shut rfl rfl rfl rfl ?_
                  exact TO.done (X.ob rfl (Pick.refl _))
                · intro Es
                  refine TO.shut rfl rfl rfl rfl ?_
                  exact TO.done (X.ob rfl (Pick.refl _))
                · intro Es
                  refine TO.shut rfl rfl rfl rfl ?_
                  exact TO.done (X.ob rfl (Pick.refl _))
              refine TO.shut rfl rfl rfl rfl ?_
              refine TO.pickT rfl rfl rfl rfl rfl ?_
              refine TO.assign rfl rfl rfl rfl ?_
              refine TO.done ?_
              exact X.metE1 true H (AllF.cons rfl (AllF.cons rfl (AllF.cons rfl (AllF.cons rfl (AllF.cons rfl (AllF.cons rfl (AllF.cons rfl (AllF.cons rfl AllF.nil)))))))) (Pick.cons (Take.head _ _) (Pick.cons (Take.head _ _) Pick.nil))
            ·
              obtain ⟨g21, H⟩ := gd_some H
              obtain ⟨g22, H⟩ := gd_some H
              apply T.drawQT [(54, _), (55, _), (56, _), (57, _), (58, _), (59, _), (60, _), (61, _), (62, _), (63, _), (64, _), (65, _), (66, _), (67, _), (68, _)]
              · exact mixed
              · kernel_rfl
              · kernel_rfl
              · exact rfl
              · exact rfl
              · refine ⟨?_, ?_, ?_, ?_, ?_, ?_, ?_, ?_, ?_, ?_, ?_, ?_, ?_, ?_, ?_, trivial⟩
                · intro Es
                  refine TO.move rfl rfl rfl rfl ?_
                  exact TO.done (X.ob rfl (Pick.refl _))
                · intro Es
                  refine TO.move rfl rfl rfl rfl ?_
                  exact TO.done (X.ob rfl (Pick.refl _))
                · intro Es
                  refine TO.ixR h_f1 g19 rfl rfl rfl rfl rfl TWS2a.l25 TWS2a.n2 ?_
                  exact TO.done (X.ob rfl (Pick.refl _))
                · intro Es
                  refine TO.ldIR h_f1 g19 rfl rfl rfl rfl TWS2a.s2 ?_
                  exact TO.done (X.ob rfl (Pick.refl _))
                · intro Es
                  refine TO.bin rfl rfl rfl rfl rfl rfl ?_
                  exact TO.done (X.ob rfl (Pick.refl _))
                · intro Es
                  refine TO.move rfl rfl rfl rfl ?_
                  refine TO.decB (t := 59) (b' := false) rfl (decide_eq_false g20) ?_
                  exact TO.done (X.ob2 rfl (Pick.refl _))
                · intro Es
                  refine TO.move rfl rfl rfl rfl ?_
                  exact TO.done (X.ob rfl (Pick.refl _))
                · intro Es
                  refine TO.move rfl rfl rfl rfl ?_
                  exact TO.done (X.ob rfl (Pick.refl _))
                · intro Es
                  refine TO.ixR h_f1 g21 rfl rfl rfl rfl rfl TWS2a.l25 TWS2a.n2 ?_
                  exact TO.done (X.ob rfl (Pick.refl _))
                · intro Es
                  refine TO.ldIR h_f1 g21 rfl rfl rfl rfl TWS2a.s2 ?_
                  exact TO.done (X.ob rfl (Pick.refl _))
                · intro Es
                  refine TO.fieldAddr0 rfl rfl rfl rfl TWS2a.f33_6 ?_
                  exact TO.done (X.ob rfl (Pick.refl _))
                · intro Es
                  refine TO.load1 rfl rfl rfl rfl TWS2a.s25 (List.Mem.head _) rfl ?_
                  exact TO.done (X.ob rfl (Pick.refl _))
                · intro Es
                  refine TO.move rfl rfl rfl rfl ?_
                  exact TO.done (X.ob rfl (Pick.refl _))
                · intro Es
                  refine TO.ixR h_c0_Cap g22 rfl rfl rfl rfl rfl TWS2a.l25 TWS2a.n2 ?_
                  exact TO.done (X.ob rfl (Pick.refl _))
                · intro Es
                  refine TO.ldIR h_c0_Cap g22 rfl rfl rfl rfl TWS2a.s2 ?_
                  exact TO.done (X.ob rfl (Pick.refl _))
              refine TO.bin rfl rfl rfl rfl rfl rfl ?_
              refine TO.pickF rfl rfl rfl rfl rfl ?_
              refine TO.assign rfl rfl rfl rfl ?_
              refine TO.done ?_
              exact X.metE1 (decide ((c0.Cap.getD x10.toNat 0) < (f1.getD (c0.Arc.getD x10.toNat 0).toNat 0))) H (AllF.cons rfl (AllF.cons rfl (AllF.cons rfl (AllF.cons rfl (AllF.cons rfl (AllF.cons rfl (AllF.cons rfl (AllF.cons rfl AllF.nil)))))))) (Pick.cons (Take.head _ _) (Pick.cons (Take.head _ _) Pick.nil))
          · rintro x23 H
            unfold m_csr_Res_j2 at H
            rcases ite_some H with ⟨g24, H⟩ | ⟨g24, H⟩
            ·
              refine T.condT rfl g24 ?_
              refine T.seq ?_
              refine T.regionL (ll := [0, 1]) rfl ?_
              refine TO.assign rfl rfl rfl rfl ?_
              refine TO.assign rfl rfl rfl rfl ?_
              refine TO.done ?_
              refine X.seq_normal ?_
              refine T.trim (AllF.cons (t := 4) rfl (AllF.cons (t := 5) rfl AllF.nil)) ?_
              refine T.ret ?_
              refine X.block_ret ?_
              refine X.block_ret ?_
              refine X.then_ret ?_
              have H := loop_exitE H C_1 ▸ K_1
              refine X.then_ret ?_
              refine X.block_ret ?_
              refine X.then_ret ?_
              obtain ⟨rfl, rfl⟩ := ret2 H
              exact X.ret2 rfl rfl rfl rfl (Res.tmp rfl) (Res.tmp rfl) (Pick.none Pick.nil) ⟨none, 0, 0, ([]), rfl, rfl, rfl, (Nat.le_refl _), (zeroJ 0 _), (fun _ => rfl)⟩
            ·
              refine T.condF rfl (Bool.eq_false_iff.2 g24) ?_
              obtain ⟨g25, H⟩ := gd_some H
              obtain ⟨g26, H⟩ := gd_some H
              obtain ⟨g27, H⟩ := gd_some H
              obtain ⟨g28, H⟩ := gd_some H
              apply T.drawQT [(22, _), (23, _), (24, _), (25, _), (26, _), (27, _), (28, _), (29, _), (30, _), (31, _), (32, _), (33, _)]
              · exact mixed
              · kernel_rfl
              · kernel_rfl
              · exact rfl
              · exact rfl
              · refine ⟨?_, ?_, ?_, ?_, ?_, ?_, ?_, ?_, ?_, ?_, ?_, ?_, trivial⟩
                · intro Es
                  refine TO.move rfl rfl rfl rfl ?_
                  exact TO.done (X.ob rfl (Pick.refl _))
                · intro Es
                  refine TO.move rfl rfl rfl rfl ?_
                  exact TO.done (X.ob rfl (Pick.refl _))
                · intro Es
                  refine TO.fieldAddr0 rfl rfl rfl rfl TWS2a.f33_6 ?_
                  exact TO.done (X.ob rfl (Pick.refl _))
                · intro Es
                  refine TO.load1 rfl rfl rfl rfl TWS2a.s25 (List.Mem.head _) rfl ?_
                  exact TO.done (X.ob rfl (Pick.refl _))
                · intro Es
                  refine TO.move rfl rfl rfl rfl ?_
                  exact TO.done (X.ob rfl (Pick.refl _))
                · intro Es
                  refine TO.ixR h_c0_Cap g25 rfl rfl rfl rfl rfl TWS2a.l25 TWS2a.n2 ?_
                  exact TO.done (X.ob rfl (Pick.refl _))
                · intro Es
                  refine TO.ldIR h_c0_Cap g25 rfl rfl rfl rfl TWS2a.s2 ?_
                  exact TO.done (X.ob rfl (Pick.refl _))
                · intro Es
                  refine TO.move rfl rfl rfl rfl ?_
                  exact TO.done (X.ob rfl (Pick.refl _))
                · intro Es
                  refine TO.move rfl rfl rfl rfl ?_
                  exact TO.done (X.ob rfl (Pick.refl _))
                · intro Es
                  refine TO.ixR h_f1 g26 rfl rfl rfl rfl rfl TWS2a.l25 TWS2a.n2 ?_
                  exact TO.done (X.ob rfl (Pick.refl _))
                · intro Es
                  refine TO.ldIR h_f1 g26 rfl rfl rfl rfl TWS2a.s2 ?_
                  exact TO.done (X.ob rfl (Pick.refl _))
                · intro Es
                  refine TO.subG g27 rfl rfl rfl rfl rfl ?_
                  exact TO.done (X.ob rfl (Pick.refl _))
              refine TO.ix1 hn9 g28 rfl rfl rfl rfl rfl TWS2a.l25 TWS2a.n2 ?_
              refine TO.stIO g28 rfl rfl rfl rfl (Take.tail (Take.head _ _)) TWS2a.n2 ?_
              refine TO.done ?_
              refine X.block_normal ?_
              refine X.block_normal ?_
              refine X.seq_normal ?_
              refine T.trim (AllF.cons (t := 1) rfl (AllF.cons (t := 2) rfl (AllF.cons (t := 6) rfl (AllF.cons (t := 13) rfl (AllF.cons (t := 14) rfl AllF.nil))))) ?_
              obtain ⟨g29, H⟩ := gd_some H
              refine T.regionL (ll := [0, 1]) rfl ?_
              refine TO.addG g29 rfl rfl rfl rfl rfl ?_
              refine TO.move rfl rfl rfl rfl ?_
              refine TO.done ?_
              have H := loop_next H C_1
              exact X.againE3 n_1 (xs8.set x10.toNat ((c0.Cap.getD x10.toNat 0) - (f1.getD (c0.Arc.getD x10.toNat 0).toNat 0))) (x10 + 1) ⟨H, (List.length_set.trans hn9)⟩ (Nat.lt_succ_self _) (AllF.cons rfl (AllF.cons rfl (AllF.cons rfl (AllF.cons rfl (AllF.cons rfl AllF.nil))))) (Pick.cons (Take.tail (Take.head _ _)) (Pick.cons (Take.head _ _) Pick.nil))
    ·
      refine T.condPF rfl g11 ?_
      refine T.exit ?_
      refine X.then_exit ?_
      have H := loop_exitE H C_1 ▸ K_1
      refine X.then_exit ?_
      refine X.block_here ?_
      exact X.metE1 xs8 ⟨H, hn9⟩ (AllF.cons rfl AllF.nil) (Pick.cons (Take.tail (Take.head _ _)) Pick.nil)
  · rintro xs30 ⟨H, hn31⟩
    unfold m_csr_Res_j3 at H
    refine T.seq ?_
    refine T.regionL (ll := [0, 1, 2]) rfl ?_
    refine TO.move rfl rfl rfl rfl ?_
    refine TO.assign rfl rfl rfl rfl ?_
    refine TO.assign rfl rfl rfl rfl ?_
    refine TO.done ?_
    refine X.seq_normal ?_
    refine T.ret ?_
    obtain ⟨rfl, rfl⟩ := ret2 H
    exact X.ret2 rfl rfl rfl rfl (Res.tmp rfl) (Res.tmp rfl) (Pick.cons (Take.head _ _) Pick.nil) ⟨(some b6), r3.toNat, r3.toNat, ([]), rfl, rfl, hn31, (Nat.le_refl _), (zeroJ _ _), someZ⟩
/-- acequia/acequialow.Bools -/
theorem w_acequialow_Bools {a0 : List Bool} {b1 : List Bool} {a0_b : Option Addr} {a0_n : Nat} {a0_c : Nat} {b1_b : Option Addr} {b1_n : Nat} {b1_c : Nat} (w : World) (h_a0 : RS w [] boolC 1 a0_b a0_n a0_c a0) (h_b1 : RS w [] boolC 1 b1_b b1_n b1_c b1) {r0 : Bool} (H : m_acequialow_Bools a0 b1 = some r0) : Fnc Try.prog 49 #[.slice a0_b a0_n a0_c, .slice b1_b b1_n b1_c] w [] (fun v N => v = .bool r0 ∧ N = []) := by
  unfold m_acequialow_Bools at H
  refine Fnc.enter (vs := [.slice a0_b a0_n a0_c, .slice b1_b b1_n b1_c]) Try.func49 rfl rfl (Inv.refl w) ?_
  refine T.seq ?_
  refine T.regionL (ll := [0]) rfl ?_
  refine TO.assign rfl rfl rfl rfl ?_
  refine TO.done ?_
  refine X.seq_normal ?_
  refine T.seq ?_
  refine T.seq ?_
  refine T.regionL (ll := [0, 1, 2, 3, 4]) rfl ?_
  refine TO.move rfl rfl rfl rfl ?_
  refine TO.lenX (xs := a0) h_a0.len rfl rfl rfl rfl rfl TWS2a.l31 ?_
  refine TO.move rfl rfl rfl rfl ?_
  refine TO.lenX (xs := b1) h_b1.len rfl rfl rfl rfl rfl TWS2a.l31 ?_
  refine TO.bin rfl rfl rfl rfl rfl rfl ?_
  refine TO.done ?_
  refine X.seq_normal ?_
  rcases ite_some H with ⟨g1, H⟩ | ⟨g1, H⟩
  ·
    refine T.condPT rfl g1 ?_
    refine T.seq ?_
    refine T.regionL (ll := [0]) rfl ?_
    refine TO.assign rfl rfl rfl rfl ?_
    refine TO.done ?_
    refine X.seq_normal ?_
    refine T.ret ?_
    refine X.then_ret ?_
    obtain rfl := ret1 H
    exact X.ret1 rfl rfl rfl rfl (Res.tmp rfl) Pick.nil ⟨rfl, rfl⟩
  ·
    refine T.condPF rfl g1 ?_
    refine T.skip ?_
    refine X.seq_normal ?_
    refine T.seq ?_
    refine T.seq ?_
    refine T.regionL (ll := [0, 1, 2]) rfl ?_
    refine TO.move rfl rfl rfl rfl ?_
    refine TO.lenX (xs := a0) h_a0.len rfl rfl rfl rfl rfl TWS2a.l31 ?_
    refine TO.move rfl rfl rfl rfl ?_
    refine TO.done ?_
    refine X.seq_normal ?_
    refine T.meetSE1 (fun (u8 : Unit) => m_acequialow_Bools_j2 = some r0) (fun (u8 : Unit) => []) (fun (u8 : Unit) => []) ?_ ?_
    ·
      refine T.block ?_
      obtain ⟨o_1, e_1, K_1⟩ := bd_some H
      refine T.loopE2 (fun (m_1 : Nat) (x2 : Int) => loopM (fun s => m_acequialow_Bools_s1 a0 b1 s) m_1 x2 = some o_1) (fun (m_1 : Nat) (x2 : Int) => [(0, .slice a0_b a0_n a0_c), (1, .slice b1_b b1_n b1_c), (12, .int .i64 (a0.length : Int)), (13, .int .i64 x2)]) (fun (m_1 : Nat) (x2 : Int) => []) (fun (m_1 : Nat) (x2 : Int) => m_1) FUEL 0 e_1 (AllF.cons rfl (AllF.cons rfl (AllF.cons rfl (AllF.cons rfl AllF.nil)))) Pick.nil ?_
      rintro m_1 x2 H
      obtain ⟨n_1, r_1, rfl, H, C_1⟩ := loopM_some H
      have H : m_acequialow_Bools_s1 a0 b1 x2 = some r_1 := H
      unfold m_acequialow_Bools_s1 at H
      refine T.seq ?_
      refine T.regionL (ll := [0]) rfl ?_
      refine TO.bin rfl rfl rfl rfl rfl rfl ?_
      refine TO.done ?_
      refine X.seq_normal ?_
      refine T.seq ?_
      rcases ite_some H with ⟨g3, H⟩ | ⟨g3, H⟩
      ·
        refine T.condPT rfl g3 ?_
        refine T.skip ?_
        refine X.seq_normal ?_
        refine T.seq ?_
        refine T.block ?_
        refine T.seq ?_
        refine T.regionL (ll := [0, 1]) rfl ?_
        refine TO.move rfl rfl rfl rfl ?_
        refine TO.assign rfl rfl rfl rfl ?_
        refine TO.done ?_
        refine X.seq_normal ?_
        refine T.seq ?_
        obtain ⟨g4, H⟩ := gd_some H
        obtain ⟨g5, H⟩ := gd_some H
        apply T.drawQT [(16, _), (17, _), (18, _), (19, _), (20, _), (21, _), (22, _), (23, _)]
        · exact mixed
        · kernel_rfl
        · kernel_rfl
        · exact rfl
        · exact rfl
        · refine ⟨?_, ?_, ?_, ?_, ?_, ?_, ?_, ?_, trivial⟩
          · intro Es
            refine TO.move rfl rfl rfl rfl ?_
            exact TO.done (X.ob rfl (Pick.refl _))
          · intro Es
            refine TO.move rfl rfl rfl rfl ?_
            exact TO.done (X.ob rfl (Pick.refl _))
          · intro Es
            refine TO.ixR h_a0 g4 rfl rfl rfl rfl rfl TWS2a.l31 TWS2a.n4 ?_
            exact TO.done (X.ob rfl (Pick.refl _))
          · intro Es
            refine TO.ldBR h_a0 g4 rfl rfl rfl rfl TWS2a.s4 ?_
            exact TO.done (X.ob rfl (Pick.refl _))
          · intro Es
            refine TO.move rfl rfl rfl rfl ?_
            exact TO.done (X.ob rfl (Pick.refl _))
          · intro Es
            refine TO.move rfl rfl rfl rfl ?_
            exact TO.done (X.ob rfl (Pick.refl _))
          · intro Es
            refine TO.ixR h_b1 g5 rfl rfl rfl rfl rfl TWS2a.l31 TWS2a.n4 ?_
            exact TO.done (X.ob rfl (Pick.refl _))
          · intro Es
            refine TO.ldBR h_b1 g5 rfl rfl rfl rfl TWS2a.s4 ?_
            exact TO.done (X.ob rfl (Pick.refl _))
        refine TO.neb rfl rfl rfl rfl rfl TWS2a.u4 ?_
        refine TO.done ?_
        refine X.seq_normal ?_
        refine T.trim (AllF.cons (t := 0) rfl (AllF.cons (t := 1) rfl (AllF.cons (t := 12) rfl (AllF.cons (t := 13) rfl (AllF.cons (t := 24) rfl AllF.nil))))) ?_
        rcases ite_some H with ⟨g6, H⟩ | ⟨g6, H⟩
        ·
          refine T.condT rfl g6 ?_
          refine T.seq ?_
          refine T.regionL (ll := [0]) rfl ?_
          refine TO.assign rfl rfl rfl rfl ?_
          refine TO.done ?_
          refine X.seq_normal ?_
          refine T.ret ?_
          refine X.block_ret ?_
          refine X.then_ret ?_
          have H := loop_exitE H C_1 ▸ K_1
          refine X.then_ret ?_
          refine X.block_ret ?_
          refine X.then_ret ?_
          obtain rfl := ret1 H
          exact X.ret1 rfl rfl rfl rfl (Res.tmp rfl) Pick.nil ⟨rfl, rfl⟩
        ·
          refine T.condF rfl (Bool.eq_false_iff.2 g6) ?_
          refine T.skip ?_
          refine X.block_normal ?_
          refine X.seq_normal ?_
          obtain ⟨g7, H⟩ := gd_some H
          refine T.regionL (ll := [0, 1]) rfl ?_
          refine TO.addG g7 rfl rfl rfl rfl rfl ?_
          refine TO.move rfl rfl rfl rfl ?_
          refine TO.done ?_
          have H := loop_next H C_1
          exact X.againE2 n_1 (x2 + 1) H (Nat.lt_succ_self _) (AllF.cons rfl (AllF.cons rfl (AllF.cons rfl (AllF.cons rfl AllF.nil)))) Pick.nil
      ·
        refine T.condPF rfl g3 ?_
        refine T.exit ?_
        refine X.then_exit ?_
        have H := loop_exitE H C_1 ▸ K_1
        refine X.then_exit ?_
        refine X.block_here ?_
        exact X.metE1 () H AllF.nil Pick.nil
    · rintro u8 H
      unfold m_acequialow_Bools_j2 at H
      refine T.seq ?_
      refine T.regionL (ll := [0]) rfl ?_
      refine TO.assign rfl rfl rfl rfl ?_
      refine TO.done ?_
      refine X.seq_normal ?_
      refine T.ret ?_
      obtain rfl := ret1 H
      exact X.ret1 rfl rfl rfl rfl (Res.tmp rfl) Pick.nil ⟨rfl, rfl⟩
/-- acequia/acequialaw01.Four -/
theorem w_acequialaw01_Four (w : World) {r0 : Net} (H : m_acequialaw01_Four = some r0) : Fnc Try.prog 56 #[] w [] (fun v N => ∃ (ob_0 : Option Nat) (n_0 : Nat) (c_0 : Nat) (j_0 : List Value), v = .agg #[.int .i64 r0.N, .int .i64 r0.S, .int .i64 r0.T, .slice (sb ob_0) n_0 c_0] ∧ N = [(ob_0, .cells (arr arcC r0.Arcs j_0).toArray 28 (0, 0))] ∧ r0.Arcs.length = n_0 ∧ n_0 ≤ c_0 ∧ j_0.length = (c_0 - n_0) * 3 ∧ (ob_0 = none → c_0 = 0)) := by
  unfold m_acequialaw01_Four at H
  refine Fnc.enter (vs := []) Try.func56 rfl rfl (Inv.refl w) ?_
  refine T.seq ?_
  refine T.regionL (ll := [0]) rfl ?_
  refine TO.allocA rfl rfl rfl TWS2a.z24 ?_; intro b1
  refine TO.done ?_
  refine X.seq_normal ?_
  refine T.seq ?_
  refine T.regionL (ll := [0, 1, 2, 3, 4, 5, 6, 7]) rfl ?_
  refine TO.buildS (t := 28) [.int .i64 0, .int .i64 0, .int .i64 0] [0, 1, 2] rfl rfl rfl rfl (by simp only [setAll, setCells, Value.cells, List.toList_toArray, List.getD_cons_zero, List.getD_cons_succ, List.set_cons_zero, List.set_cons_succ]; rfl) (by kernel_rfl) ?_
  refine TO.buildS (t := 28) [.int .i64 0, .int .i64 0, .int .i64 0] [0, 1, 2] rfl rfl rfl rfl (by simp only [setAll, setCells, Value.cells, List.toList_toArray, List.getD_cons_zero, List.getD_cons_succ, List.set_cons_zero, List.set_cons_succ]; rfl) (by kernel_rfl) ?_
  refine TO.buildS (t := 28) [.int .i64 0, .int .i64 0, .int .i64 0] [0, 1, 2] rfl rfl rfl rfl (by simp only [setAll, setCells, Value.cells, List.toList_toArray, List.getD_cons_zero, List.getD_cons_succ, List.set_cons_zero, List.set_cons_succ]; rfl) (by kernel_rfl) ?_
  refine TO.buildS (t := 28) [.int .i64 0, .int .i64 0, .int .i64 0] [0, 1, 2] rfl rfl rfl rfl (by simp only [setAll, setCells, Value.cells, List.toList_toArray, List.getD_cons_zero, List.getD_cons_succ, List.set_cons_zero, List.set_cons_succ]; rfl) (by kernel_rfl) ?_
  refine TO.buildS (t := 28) [.int .i64 0, .int .i64 0, .int .i64 0] [0, 1, 2] rfl rfl rfl rfl (by simp only [setAll, setCells, Value.cells, List.toList_toArray, List.getD_cons_zero, List.getD_cons_succ, List.set_cons_zero, List.set_cons_succ]; rfl) (by kernel_rfl) ?_
  refine TO.buildSliceS [.int .i64 0, .int .i64 0, .int .i64 0, .int .i64 0, .int .i64 0, .int .i64 0, .int .i64 0, .int .i64 0, .int .i64 0, .int .i64 0, .int .i64 0, .int .i64 0, .int .i64 0, .int .i64 0, .int .i64 0] [0, 3, 6, 9, 12] rfl rfl rfl rfl TWS2a.l22 TWS2a.n28 TWS2a.z28 rfl rfl (by simp only [setAll, setCells, Value.cells, List.toList_toArray, List.getD_cons_zero, List.getD_cons_succ, List.set_cons_zero, List.set_cons_succ]; rfl) (by kernel_rfl) ?_; intro b3
  refine TO.buildS (t := 24) [.int .i64 0, .int .i64 0, .int .i64 0, .slice none 0 0] [0, 1, 2, 3] rfl rfl rfl rfl (by simp only [setAll, setCells, Value.cells, List.toList_toArray, List.getD_cons_zero, List.getD_cons_succ, List.set_cons_zero, List.set_cons_succ]; rfl) (by kernel_rfl) ?_
  refine TO.storeA rfl rfl rfl rfl (Take.tail (Take.head _ _)) TWS2a.n24 rfl rfl rfl ?_
  refine TO.done ?_
  refine X.seq_normal ?_
  refine T.ret ?_
  obtain rfl := ret1 H
  exact X.ret1 rfl rfl rfl rfl (Res.cellA rfl TWS2a.a24 (List.Mem.head _) rfl) (Pick.cons (Take.tail (Take.head _ _)) Pick.nil) ⟨(some b3), 5, 5, ([]), rfl, rfl, rfl, (Nat.le_refl _), (zeroJ _ _), someZ⟩
end Go.Proofs.Ytcdbemdogkmahaa.Ax
