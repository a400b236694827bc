/- What a call does is what its model says: acequialaw01.Four, acequialaw02.awake, acequialow.Bools, acequialow.Ints, acequialow.Longs, csr.Flow, csr.Flow$1, csr.Res, csr.Tail, slices.ContainsFunc[[]int,int], slices.IndexFunc[[]int,int], sort.Search, sort.SearchInts, sort.SearchInts$1. (Printed by sx.py.) -/
import Derived.Test.YtcdbemdogkmahaaAcqMS2
import Derived.Test.YtcdbemdogkmahaaAcqRw
import Derived.Test.YtcdbemdogkmahaaAcqWS2
namespace Go.Proofs.Ytcdbemdogkmahaa.Ax
open Go Go.Acq Go.RowKit Go.Proofs
set_option linter.unusedVariables false
set_option linter.unusedSimpArgs false
set_option maxHeartbeats 8000000
set_option maxRecDepth 20000
theorem TWS2a.a24 : aggT Try.prog 24 4 = true := by kernel_rfl
theorem TWS2a.a33 : aggT Try.prog 33 9 = true := by kernel_rfl
theorem TWS2a.b2 : bytesT Try.prog 2 = some 8 := by kernel_rfl
theorem TWS2a.c19 : callable Try.prog 19 = true := by kernel_rfl
theorem TWS2a.c20 : callable Try.prog 20 = true := by kernel_rfl
theorem TWS2a.c21 : callable Try.prog 21 = true := by kernel_rfl
theorem TWS2a.c22 : callable Try.prog 22 = true := by kernel_rfl
theorem TWS2a.c25 : callable Try.prog 25 = true := by kernel_rfl
theorem TWS2a.c56 : callable Try.prog 56 = true := by kernel_rfl
theorem TWS2a.c57 : callable Try.prog 57 = true := by kernel_rfl
theorem TWS2a.c58 : callable Try.prog 58 = true := by kernel_rfl
theorem TWS2a.c59 : callable Try.prog 59 = true := by kernel_rfl
theorem TWS2a.c77 : callable Try.prog 77 = true := by kernel_rfl
theorem TWS2a.c78 : callable Try.prog 78 = true := by kernel_rfl
theorem TWS2a.c79 : callable Try.prog 79 = true := by kernel_rfl
theorem TWS2a.f33_3 : fieldT Try.prog 33 3 = some 3 := by kernel_rfl
theorem TWS2a.f33_4 : fieldT Try.prog 33 4 = some 4 := by kernel_rfl
theorem TWS2a.f33_5 : fieldT Try.prog 33 5 = some 5 := by kernel_rfl
theorem TWS2a.f33_6 : fieldT Try.prog 33 6 = some 6 := by kernel_rfl
theorem TWS2a.f33_7 : fieldT Try.prog 33 7 = some 7 := by kernel_rfl
theorem TWS2a.f33_8 : fieldT Try.prog 33 8 = some 8 := by kernel_rfl
theorem TWS2a.i115 : intT Try.prog 115 = some .u64 := by kernel_rfl
theorem TWS2a.i3 : intT Try.prog 3 = some .i64 := by kernel_rfl
theorem TWS2a.l22 : sliceT Try.prog 22 = some 28 := by kernel_rfl
theorem TWS2a.l25 : sliceT Try.prog 25 = some 2 := by kernel_rfl
theorem TWS2a.l30 : sliceT Try.prog 30 = some 3 := by kernel_rfl
theorem TWS2a.l31 : sliceT Try.prog 31 = some 4 := by kernel_rfl
theorem TWS2a.n2 : sizeT Try.prog 2 = some 1 := by kernel_rfl
theorem TWS2a.n24 : sizeT Try.prog 24 = some 4 := by kernel_rfl
theorem TWS2a.n28 : sizeT Try.prog 28 = some 3 := by kernel_rfl
theorem TWS2a.n3 : sizeT Try.prog 3 = some 1 := by kernel_rfl
theorem TWS2a.n33 : sizeT Try.prog 33 = some 9 := by kernel_rfl
theorem TWS2a.n4 : sizeT Try.prog 4 = some 1 := by kernel_rfl
theorem TWS2a.o115 : (Try.prog.underlying 115).isSome = true := by kernel_rfl
theorem TWS2a.o3 : (Try.prog.underlying 3).isSome = true := by kernel_rfl
theorem TWS2a.s2 : scalT Try.prog 2 = true := by kernel_rfl
theorem TWS2a.s25 : scalT Try.prog 25 = true := by kernel_rfl
theorem TWS2a.s3 : scalT Try.prog 3 = true := by kernel_rfl
theorem TWS2a.s30 : scalT Try.prog 30 = true := by kernel_rfl
theorem TWS2a.s31 : scalT Try.prog 31 = true := by kernel_rfl
theorem TWS2a.s4 : scalT Try.prog 4 = true := by kernel_rfl
theorem TWS2a.u4 : Try.prog.underlying 4 = some .bool := by kernel_rfl
theorem TWS2a.z2 : zeroT Try.prog 2 = some (.int .i64 0) := by kernel_rfl
theorem TWS2a.z24 : zeroT Try.prog 24 = some (.agg #[.int .i64 0, .int .i64 0, .int .i64 0, .slice none 0 0]) := by kernel_rfl
theorem TWS2a.z28 : zeroT Try.prog 28 = some (.agg #[.int .i64 0, .int .i64 0, .int .i64 0]) := by kernel_rfl
theorem TWS2a.z3 : zeroT Try.prog 3 = some (.int .i64 0) := by kernel_rfl
theorem TWS2a.z33 : zeroT Try.prog 33 = some (.agg #[.int .i64 0, .int .i64 0, .int .i64 0, .slice none 0 0, .slice none 0 0, .slice none 0 0, .slice none 0 0, .slice none 0 0, .slice none 0 0]) := by kernel_rfl

/-- acequia/csr.Res -/
theorem w_csr_Res {c0 : Csr} {f1 : List Int} {c0_First_b : Option Addr} {c0_First_n : Nat} {c0_First_c : Nat} {c0_Head_b : Option Addr} {c0_Head_n : Nat} {c0_Head_c : Nat} {c0_Rev_b : Option Addr} {c0_Rev_n : Nat} {c0_Rev_c : Nat} {c0_Cap_b : Option Addr} {c0_Cap_n : Nat} {c0_Cap_c : Nat} {c0_Arc_b : Option Addr} {c0_Arc_n : Nat} {c0_Arc_c : Nat} {c0_Back_b : Option Addr} {c0_Back_n : Nat} {c0_Back_c : Nat} {f1_b : Option Addr} {f1_n : Nat} {f1_c : Nat} (w : World) (h_c0_First : RS w [] (intC .i64) 1 c0_First_b c0_First_n c0_First_c c0.First) (h_c0_Head : RS w [] (intC .i64) 1 c0_Head_b c0_Head_n c0_Head_c c0.Head) (h_c0_Rev : RS w [] (intC .i64) 1 c0_Rev_b c0_Rev_n c0_Rev_c c0.Rev) (h_c0_Cap : RS w [] (intC .i64) 1 c0_Cap_b c0_Cap_n c0_Cap_c c0.Cap) (h_c0_Arc : RS w [] (intC .i64) 1 c0_Arc_b c0_Arc_n c0_Arc_c c0.Arc) (h_c0_Back : RS w [] boolC 1 c0_Back_b c0_Back_n c0_Back_c c0.Back) (h_f1 : RS w [] (intC .i64) 1 f1_b f1_n f1_c f1) {r0 : List Int} {r1 : Int} (H : m_csr_Res c0 f1 = some (r0, r1)) : Fnc Try.prog 20 #[.agg #[.int .i64 c0.N, .int .i64 c0.S, .int .i64 c0.T, .slice c0_First_b c0_First_n c0_First_c, .slice c0_Head_b c0_Head_n c0_Head_c, .slice c0_Rev_b c0_Rev_n c0_Rev_c, .slice c0_Cap_b c0_Cap_n c0_Cap_c, .slice c0_Arc_b c0_Arc_n c0_Arc_c, .slice c0_Back_b c0_Back_n c0_Back_c], .slice f1_b f1_n f1_c] w [] (fun v N => ∃ (ob_0 : Option Nat) (n_0 : Nat) (c_0 : Nat) (j_0 : List Value), v = .tuple #[.slice (sb ob_0) n_0 c_0, .int .i64 r1] ∧ N = [(ob_0, .cells (arr (intC .i64) r0 j_0).toArray 2 (0, 0))] ∧ r0.length = n_0 ∧ n_0 ≤ c_0 ∧ j_0.length = (c_0 - n_0) * 1 ∧ (ob_0 = none → c_0 = 0)) := by
  unfold m_csr_Res at H
  refine Fnc.enter (vs := [.agg #[.int .i64 c0.N, .int .i64 c0.S, .int .i64 c0.T, .slice c0_First_b c0_First_n c0_First_c, .slice c0_Head_b c0_Head_n c0_Head_c, .slice c0_Rev_b c0_Rev_n c0_Rev_c, .slice c0_Cap_b c0_Cap_n c0_Cap_c, .slice c0_Arc_b c0_Arc_n c0_Arc_c, .slice c0_Back_b c0_Back_n c0_Back_c], .slice f1_b f1_n f1_c]) Try.func20 rfl rfl (Inv.refl w) ?_
  refine T.seq ?_
  refine T.regionL (ll := [0, 1, 2]) rfl ?_
  refine TO.boxA rfl rfl rfl rfl ?_; intro b1
  refine TO.assign rfl rfl rfl rfl ?_
  refine TO.assign rfl rfl rfl rfl ?_
  refine TO.done ?_
  refine X.seq_normal ?_
  refine T.seq ?_
  obtain ⟨r3, e4, H⟩ := bd_some H
  obtain ⟨g5, H⟩ := gd_some H
  refine T.regionL (ll := [0, 1, 2, 3]) rfl ?_
  refine TO.loadA rfl rfl rfl rfl TWS2a.a33 (List.Mem.head _) rfl ?_
  refine TO.callX TWS2a.c22 rfl rfl rfl rfl (fun wc hwc => w_csr_Len (c0 := c0) wc (h_c0_First.mono hwc) (h_c0_Head.mono hwc) (h_c0_Rev.mono hwc) (h_c0_Cap.mono hwc) (h_c0_Arc.mono hwc) (h_c0_Back.mono hwc) e4) ?_
  rintro _ _ ⟨rfl, rfl⟩
  refine TO.mkI g5 rfl rfl rfl rfl rfl TWS2a.l25 TWS2a.n2 TWS2a.z2 TWS2a.b2 rfl ?_; intro b6
  refine TO.assign rfl rfl rfl rfl ?_
  refine TO.done ?_
  refine X.seq_normal ?_
  refine T.seq ?_
  refine T.seq ?_
  refine T.regionL (ll := [0, 1, 2]) rfl ?_
  refine TO.move rfl rfl rfl rfl ?_
  refine TO.lenX (xs := (List.replicate r3.toNat (0 : Int))) List.length_replicate rfl rfl rfl rfl rfl TWS2a.l25 ?_
  refine TO.move rfl rfl rfl rfl ?_
  refine TO.done ?_
  refine X.seq_normal ?_
  refine T.meetSE1 (fun (xs30 : List Int) => m_csr_Res_j3 xs30 = some (r0, r1) ∧ xs30.length = r3.toNat) (fun (xs30 : List Int) => [(6, .slice (some ⟨b6, 0, none⟩) r3.toNat r3.toNat)]) (fun (xs30 : List Int) => [(some b6, .cells (arr (intC .i64) xs30 ([])).toArray 2 (0, 0))]) ?_ ?_
  ·
    refine T.block ?_
    obtain ⟨o_1, e_1, K_1⟩ := bd_some H
    refine T.loopE3 (fun (m_1 : Nat) (xs8 : List Int) (x10 : Int) => loopM (fun s => m_csr_Res_s1 c0 f1 r3 s.1 s.2) m_1 (xs8, x10) = some o_1 ∧ xs8.length = r3.toNat) (fun (m_1 : Nat) (xs8 : List Int) (x10 : Int) => [(1, .slice f1_b f1_n f1_c), (2, .pointer (some ⟨b1, 0, none⟩)), (6, .slice (some ⟨b6, 0, none⟩) r3.toNat r3.toNat), (13, .int .i64 ((List.replicate r3.toNat (0 : Int)).length : Int)), (14, .int .i64 x10)]) (fun (m_1 : Nat) (xs8 : List Int) (x10 : Int) => [(some b1, .cells #[.int .i64 c0.N, .int .i64 c0.S, .int .i64 c0.T, .slice c0_First_b c0_First_n c0_First_c, .slice c0_Head_b c0_Head_n c0_Head_c, .slice c0_Rev_b c0_Rev_n c0_Rev_c, .slice c0_Cap_b c0_Cap_n c0_Cap_c, .slice c0_Arc_b c0_Arc_n c0_Arc_c, .slice c0_Back_b c0_Back_n c0_Back_c] 33 (0, 0)), (some b6, .cells (arr (intC .i64) xs8 ([])).toArray 2 (0, 0))]) (fun (m_1 : Nat) (xs8 : List Int) (x10 : Int) => m_1) FUEL (List.replicate r3.toNat (0 : Int)) 0 ⟨e_1, List.length_replicate⟩ (AllF.cons rfl (AllF.cons rfl (AllF.cons rfl (AllF.cons rfl (AllF.cons rfl AllF.nil))))) (Pick.cons (Take.tail (Take.head _ _)) (Pick.cons (Take.head _ _) Pick.nil)) ?_
    rintro m_1 xs8 x10 ⟨H, hn9⟩
    obtain ⟨n_1, r_1, rfl, H, C_1⟩ := loopM_some H
    have H : m_csr_Res_s1 c0 f1 r3 xs8 x10 = some r_1 := H
    unfold m_csr_Res_s1 at H
    refine T.seq ?_
    refine T.regionL (ll := [0]) rfl ?_
    refine TO.bin rfl rfl rfl rfl rfl rfl ?_
    refine TO.done ?_
    refine X.seq_normal ?_
    refine T.seq ?_
    rcases ite_some H with ⟨g11, H⟩ | ⟨g11, H⟩
    ·
      refine T.condPT rfl g11 ?_
      refine T.skip ?_
      refine X.seq_normal ?_
      refine T.seq ?_
      refine T.block ?_
      refine T.seq ?_
      refine T.regionL (ll := [0, 1]) rfl ?_
      refine TO.move rfl rfl rfl rfl ?_
      refine TO.assign rfl rfl rfl rfl ?_
      refine TO.done ?_
      refine X.seq_normal ?_
      refine T.seq ?_
      obtain ⟨g12, H⟩ := gd_some H
      refine T.regionL (ll := [0, 1, 2, 3, 4, 5]) rfl ?_
      refine TO.fieldAddr0 rfl rfl rfl rfl TWS2a.f33_7 ?_
      refine TO.load1 rfl rfl rfl rfl TWS2a.s30 (List.Mem.head _) rfl ?_
      refine TO.move rfl rfl rfl rfl ?_
      refine TO.ixR h_c0_Arc g12 rfl rfl rfl rfl rfl TWS2a.l30 TWS2a.n3 ?_
      refine TO.ldIR h_c0_Arc g12 rfl rfl rfl rfl TWS2a.s3 ?_
      refine TO.assign rfl rfl rfl rfl ?_
      refine TO.done ?_
      refine X.seq_normal ?_
      refine T.block ?_
      refine T.seq ?_
      refine T.regionL (ll := [0, 1, 2, 3, 4]) rfl ?_
      refine TO.move rfl rfl rfl rfl ?_
      refine TO.move rfl rfl rfl rfl ?_
      refine TO.lenX (xs := f1) h_f1.len rfl rfl rfl rfl rfl TWS2a.l25 ?_
      refine TO.bin rfl rfl rfl rfl rfl rfl ?_
      refine TO.assign rfl rfl rfl rfl ?_
      refine TO.done ?_
      refine X.seq_normal ?_
      refine T.trim (AllF.cons (t := 1) rfl (AllF.cons (t := 2) rfl (AllF.cons (t := 6) rfl (AllF.cons (t := 13) rfl (AllF.cons (t := 14) rfl (AllF.cons (t := 7) rfl (AllF.cons (t := 8) rfl (AllF.cons (t := 35) rfl AllF.nil)))))))) ?_
      rcases ite_some H with ⟨g13, H⟩ | ⟨g13, H⟩
      ·
        refine T.condPT rfl g13 ?_
        refine T.seq ?_
        refine T.regionL (ll := [0, 1]) rfl ?_
        refine TO.assign rfl rfl rfl rfl ?_
        refine TO.assign rfl rfl rfl rfl ?_
        refine TO.done ?_
        refine X.seq_normal ?_
        refine T.trim (AllF.cons (t := 4) rfl (AllF.cons (t := 5) rfl AllF.nil)) ?_
        refine T.ret ?_
        refine X.block_ret ?_
        refine X.block_ret ?_
        refine X.then_ret ?_
        have H := loop_exitE H C_1 ▸ K_1
        refine X.then_ret ?_
        refine X.block_ret ?_
        refine X.then_ret ?_
        obtain ⟨rfl, rfl⟩ := ret2 H
        exact X.ret2 rfl rfl rfl rfl (Res.tmp rfl) (Res.tmp rfl) (Pick.none Pick.nil) ⟨none, 0, 0, ([]), rfl, rfl, rfl, (Nat.le_refl _), (zeroJ 0 _), (fun _ => rfl)⟩
      ·
        refine T.condPF rfl g13 ?_
        refine T.seq ?_
        obtain ⟨g14, H⟩ := gd_some H
        refine T.regionL (ll := [0, 1, 2, 3, 4, 5]) rfl ?_
        refine TO.fieldAddr0 rfl rfl rfl rfl TWS2a.f33_8 ?_
        refine TO.load1 rfl rfl rfl rfl TWS2a.s31 (List.Mem.head _) rfl ?_
        refine TO.move rfl rfl rfl rfl ?_
        refine TO.ixR h_c0_Back g14 rfl rfl rfl rfl rfl TWS2a.l31 TWS2a.n4 ?_
        refine TO.ldBR h_c0_Back g14 rfl rfl rfl rfl TWS2a.s4 ?_
        refine TO.assign rfl rfl rfl rfl ?_
        refine TO.done ?_
        refine X.seq_normal ?_
        rcases ite_some H with ⟨g15, H⟩ | ⟨g15, H⟩
        ·
          refine T.condT rfl g15 ?_
          obtain ⟨g16, H⟩ := gd_some H
          obtain ⟨g17, H⟩ := gd_some H
          refine T.regionL (ll := [0, 1, 2, 3, 4, 5, 6, 7]) rfl ?_
          refine TO.move rfl rfl rfl rfl ?_
          refine TO.move rfl rfl rfl rfl ?_
          refine TO.move rfl rfl rfl rfl ?_
          refine TO.move rfl rfl rfl rfl ?_
          refine TO.ixR h_f1 g16 rfl rfl rfl rfl rfl TWS2a.l25 TWS2a.n2 ?_
          refine TO.ldIR h_f1 g16 rfl rfl rfl rfl TWS2a.s2 ?_
          refine TO.ix1 hn9 g17 rfl rfl rfl rfl rfl TWS2a.l25 TWS2a.n2 ?_
          refine TO.stIO g17 rfl rfl rfl rfl (Take.tail (Take.head _ _)) TWS2a.n2 ?_
          refine TO.done ?_
          refine X.block_normal ?_
          refine X.block_normal ?_
          refine X.seq_normal ?_
          refine T.trim (AllF.cons (t := 1) rfl (AllF.cons (t := 2) rfl (AllF.cons (t := 6) rfl (AllF.cons (t := 13) rfl (AllF.cons (t := 14) rfl AllF.nil))))) ?_
          obtain ⟨g18, H⟩ := gd_some H
          refine T.regionL (ll := [0, 1]) rfl ?_
          refine TO.addG g18 rfl rfl rfl rfl rfl ?_
          refine TO.move rfl rfl rfl rfl ?_
          refine TO.done ?_
          have H := loop_next H C_1
          exact X.againE3 n_1 (xs8.set x10.toNat (f1.getD (c0.Arc.getD x10.toNat 0).toNat 0)) (x10 + 1) ⟨H, (List.length_set.trans hn9)⟩ (Nat.lt_succ_self _) (AllF.cons rfl (AllF.cons rfl (AllF.cons rfl (AllF.cons rfl (AllF.cons rfl AllF.nil))))) (Pick.cons (Take.tail (Take.head _ _)) (Pick.cons (Take.head _ _) Pick.nil))
        ·
          refine T.condF rfl (Bool.eq_false_iff.2 g15) ?_
          refine T.seq ?_
          refine T.meetSE1 (fun (x23 : Bool) => m_csr_Res_j2 c0 f1 xs8 x10 x23 = some r_1) (fun (x23 : Bool) => [(1, .slice f1_b f1_n f1_c), (2, .pointer (some ⟨b1, 0, none⟩)), (6, .slice (some ⟨b6, 0, none⟩) r3.toNat r3.toNat), (7, .int .i64 x10), (8, .int .i64 (c0.Arc.getD x10.toNat 0)), (13, .int .i64 ((List.replicate r3.toNat (0 : Int)).length : Int)), (14, .int .i64 x10), (53, .bool x23)]) (fun (x23 : Bool) => [(some b1, .cells #[.int .i64 c0.N, .int .i64 c0.S, .int .i64 c0.T, .slice c0_First_b c0_First_n c0_First_c, .slice c0_Head_b c0_Head_n c0_Head_c, .slice c0_Rev_b c0_Rev_n c0_Rev_c, .slice c0_Cap_b c0_Cap_n c0_Cap_c, .slice c0_Arc_b c0_Arc_n c0_Arc_c, .slice c0_Back_b c0_Back_n c0_Back_c] 33 (0, 0)), (some b6, .cells (arr (intC .i64) xs8 ([])).toArray 2 (0, 0))]) ?_ ?_
          ·
            obtain ⟨g19, H⟩ := gd_some H
            rcases ite_some H with ⟨g20, H⟩ | ⟨g20, H⟩
            ·
              apply T.drawQT [(54, _), (55, _), (56, _), (57, _), (58, _), (59, _), (60, _), (61, _), (62, _), (63, _), (64, _), (65, _), (66, _), (67, _), (68, _)]
              · exact mixed
              · kernel_rfl
              · kernel_rfl
              · exact rfl
              · exact rfl
              · refine ⟨?_, ?_, ?_, ?_, ?_, ?_, ?_, ?_, ?_, ?_, ?_, ?_, ?_, ?_, ?_, trivial⟩
                · intro Es
                  refine TO.move rfl rfl rfl rfl ?_
                  exact TO.done (X.ob rfl (Pick.refl _))
                · intro Es
                  refine TO.move rfl rfl rfl rfl ?_
                  exact TO.done (X.ob rfl (Pick.refl _))
                · intro Es
                  refine TO.ixR h_f1 g19 rfl rfl rfl rfl rfl TWS2a.l25 TWS2a.n2 ?_
                  exact TO.done (X.ob rfl (Pick.refl _))
                · intro Es
                  refine TO.ldIR h_f1 g19 rfl rfl rfl rfl TWS2a.s2 ?_
                  exact TO.done (X.ob rfl (Pick.refl _))
                · intro Es
                  refine TO.bin rfl rfl rfl rfl rfl rfl ?_
                  exact TO.done (X.ob rfl (Pick.refl _))
                · intro Es
                  refine TO.move rfl rfl rfl rfl ?_
                  refine TO.decB (t := 59) (b' := true) rfl (decide_eq_true g20) ?_
                  exact TO.done (X.ob2 rfl (Pick.refl _))
                · intro Es
                  refine TO.shut rfl rfl rfl rfl ?_
                  exact TO.done (X.ob rfl (Pick.refl _))
                · intro Es
                  refine TO.shut rfl rfl rfl rfl ?_
                  exact TO.done (X.ob rfl (Pick.refl _))
                · intro Es
                  refine TO.shut rfl rfl rfl rfl ?_
                  exact TO.done (X.ob rfl (Pick.refl _))
                · intro Es
                  refine TO.shut rfl rfl rfl rfl ?_
                  exact TO.done (X.ob rfl (Pick.refl _))
                · intro Es
                  refine TO.shut rfl rfl rfl rfl ?_
                  exact TO.done (X.ob rfl (Pick.refl _))
                · intro Es
                  refine TO.shut rfl rfl rfl rfl ?_
                  exact TO.done (X.ob rfl (Pick.refl _))
                · intro Es
                  refine TO.shut rfl rfl rfl rfl ?_
                  exact TO.done (X.ob rfl (Pick.refl _))
                · intro Es
                  refine TO.shut rfl rfl rfl rfl ?_
                  exact TO.done (X.ob rfl (Pick.refl _))
                · intro Es
                  refine TO.shut rfl rfl rfl rfl ?_
                  exact TO.done (X.ob rfl (Pick.refl _))
              refine TO.shut rfl rfl rfl rfl ?_
              refine TO.pickT rfl rfl rfl rfl rfl ?_
              refine TO.assign rfl rfl rfl rfl ?_
              refine TO.done ?_
              exact X.metE1 true H (AllF.cons rfl (AllF.cons rfl (AllF.cons rfl (AllF.cons rfl (AllF.cons rfl (AllF.cons rfl (AllF.cons rfl (AllF.cons rfl AllF.nil)))))))) (Pick.cons (Take.head _ _) (Pick.cons (Take.head _ _) Pick.nil))
            ·
              obtain ⟨g21, H⟩ := gd_some H
              obtain ⟨g22, H⟩ := gd_some H
              apply T.drawQT [(54, _), (55, _), (56, _), (57, _), (58, _), (59, _), (60, _), (61, _), (62, _), (63, _), (64, _), (65, _), (66, _), (67, _), (68, _)]
              · exact mixed
              · kernel_rfl
              · kernel_rfl
              · exact rfl
              · exact rfl
              · refine ⟨?_, ?_, ?_, ?_, ?_, ?_, ?_, ?_, ?_, ?_, ?_, ?_, ?_, ?_, ?_, trivial⟩
                · intro Es
                  refine TO.move rfl rfl rfl rfl ?_
                  exact TO.done (X.ob rfl (Pick.refl _))
                · intro Es
                  refine TO.move rfl rfl rfl rfl ?_
                  exact TO.done (X.ob rfl (Pick.refl _))
                · intro Es
                  refine TO.ixR h_f1 g19 rfl rfl rfl rfl rfl TWS2a.l25 TWS2a.n2 ?_
                  exact TO.done (X.ob rfl (Pick.refl _))
                · intro Es
                  refine TO.ldIR h_f1 g19 rfl rfl rfl rfl TWS2a.s2 ?_
                  exact TO.done (X.ob rfl (Pick.refl _))
                · intro Es
                  refine TO.bin rfl rfl rfl rfl rfl rfl ?_
                  exact TO.done (X.ob rfl (Pick.refl _))
                · intro Es
                  refine TO.move rfl rfl rfl rfl ?_
                  refine TO.decB (t := 59) (b' := false) rfl (decide_eq_false g20) ?_
                  exact TO.done (X.ob2 rfl (Pick.refl _))
                · intro Es
                  refine TO.move rfl rfl rfl rfl ?_
                  exact TO.done (X.ob rfl (Pick.refl _))
                · intro Es
                  refine TO.move rfl rfl rfl rfl ?_
                  exact TO.done (X.ob rfl (Pick.refl _))
                · intro Es
                  refine TO.ixR h_f1 g21 rfl rfl rfl rfl rfl TWS2a.l25 TWS2a.n2 ?_
                  exact TO.done (X.ob rfl (Pick.refl _))
                · intro Es
                  refine TO.ldIR h_f1 g21 rfl rfl rfl rfl TWS2a.s2 ?_
                  exact TO.done (X.ob rfl (Pick.refl _))
                · intro Es
                  refine TO.fieldAddr0 rfl rfl rfl rfl TWS2a.f33_6 ?_
                  exact TO.done (X.ob rfl (Pick.refl _))
                · intro Es
                  refine TO.load1 rfl rfl rfl rfl TWS2a.s25 (List.Mem.head _) rfl ?_
                  exact TO.done (X.ob rfl (Pick.refl _))
                · intro Es
                  refine TO.move rfl rfl rfl rfl ?_
                  exact TO.done (X.ob rfl (Pick.refl _))
                · intro Es
                  refine TO.ixR h_c0_Cap g22 rfl rfl rfl rfl rfl TWS2a.l25 TWS2a.n2 ?_
                  exact TO.done (X.ob rfl (Pick.refl _))
                · intro Es
                  refine TO.ldIR h_c0_Cap g22 rfl rfl rfl rfl TWS2a.s2 ?_
                  exact TO.done (X.ob rfl (Pick.refl _))
              refine TO.bin rfl rfl rfl rfl rfl rfl ?_
              refine TO.pickF rfl rfl rfl rfl rfl ?_
              refine TO.assign rfl rfl rfl rfl ?_
              refine TO.done ?_
              exact X.metE1 (decide ((c0.Cap.getD x10.toNat 0) < (f1.getD (c0.Arc.getD x10.toNat 0).toNat 0))) H (AllF.cons rfl (AllF.cons rfl (AllF.cons rfl (AllF.cons rfl (AllF.cons rfl (AllF.cons rfl (AllF.cons rfl (AllF.cons rfl AllF.nil)))))))) (Pick.cons (Take.head _ _) (Pick.cons (Take.head _ _) Pick.nil))
          · rintro x23 H
            unfold m_csr_Res_j2 at H
            rcases ite_some H with ⟨g24, H⟩ | ⟨g24, H⟩
            ·
              refine T.condT rfl g24 ?_
              refine T.seq ?_
              refine T.regionL (ll := [0, 1]) rfl ?_
              refine TO.assign rfl rfl rfl rfl ?_
              refine TO.assign rfl rfl rfl rfl ?_
              refine TO.done ?_
              refine X.seq_normal ?_
              refine T.trim (AllF.cons (t := 4) rfl (AllF.cons (t := 5) rfl AllF.nil)) ?_
              refine T.ret ?_
              refine X.block_ret ?_
              refine X.block_ret ?_
              refine X.then_ret ?_
              have H := loop_exitE H C_1 ▸ K_1
              refine X.then_ret ?_
              refine X.block_ret ?_
              refine X.then_ret ?_
              obtain ⟨rfl, rfl⟩ := ret2 H
              exact X.ret2 rfl rfl rfl rfl (Res.tmp rfl) (Res.tmp rfl) (Pick.none Pick.nil) ⟨none, 0, 0, ([]), rfl, rfl, rfl, (Nat.le_refl _), (zeroJ 0 _), (fun _ => rfl)⟩
            ·
              refine T.condF rfl (Bool.eq_false_iff.2 g24) ?_
              obtain ⟨g25, H⟩ := gd_some H
              obtain ⟨g26, H⟩ := gd_some H
              obtain ⟨g27, H⟩ := gd_some H
              obtain ⟨g28, H⟩ := gd_some H
              apply T.drawQT [(22, _), (23, _), (24, _), (25, _), (26, _), (27, _), (28, _), (29, _), (30, _), (31, _), (32, _), (33, _)]
              · exact mixed
              · kernel_rfl
              · kernel_rfl
              · exact rfl
              · exact rfl
              · refine ⟨?_, ?_, ?_, ?_, ?_, ?_, ?_, ?_, ?_, ?_, ?_, ?_, trivial⟩
                · intro Es
                  refine TO.move rfl rfl rfl rfl ?_
                  exact TO.done (X.ob rfl (Pick.refl _))
                · intro Es
                  refine TO.move rfl rfl rfl rfl ?_
                  exact TO.done (X.ob rfl (Pick.refl _))
                · intro Es
                  refine TO.fieldAddr0 rfl rfl rfl rfl TWS2a.f33_6 ?_
                  exact TO.done (X.ob rfl (Pick.refl _))
                · intro Es
                  refine TO.load1 rfl rfl rfl rfl TWS2a.s25 (List.Mem.head _) rfl ?_
                  exact TO.done (X.ob rfl (Pick.refl _))
                · intro Es
                  refine TO.move rfl rfl rfl rfl ?_
                  exact TO.done (X.ob rfl (Pick.refl _))
                · intro Es
                  refine TO.ixR h_c0_Cap g25 rfl rfl rfl rfl rfl TWS2a.l25 TWS2a.n2 ?_
                  exact TO.done (X.ob rfl (Pick.refl _))
                · intro Es
                  refine TO.ldIR h_c0_Cap g25 rfl rfl rfl rfl TWS2a.s2 ?_
                  exact TO.done (X.ob rfl (Pick.refl _))
                · intro Es
                  refine TO.move rfl rfl rfl rfl ?_
                  exact TO.done (X.ob rfl (Pick.refl _))
                · intro Es
                  refine TO.move rfl rfl rfl rfl ?_
                  exact TO.done (X.ob rfl (Pick.refl _))
                · intro Es
                  refine TO.ixR h_f1 g26 rfl rfl rfl rfl rfl TWS2a.l25 TWS2a.n2 ?_
                  exact TO.done (X.ob rfl (Pick.refl _))
                · intro Es
                  refine TO.ldIR h_f1 g26 rfl rfl rfl rfl TWS2a.s2 ?_
                  exact TO.done (X.ob rfl (Pick.refl _))
                · intro Es
                  refine TO.subG g27 rfl rfl rfl rfl rfl ?_
                  exact TO.done (X.ob rfl (Pick.refl _))
              refine TO.ix1 hn9 g28 rfl rfl rfl rfl rfl TWS2a.l25 TWS2a.n2 ?_
              refine TO.stIO g28 rfl rfl rfl rfl (Take.tail (Take.head _ _)) TWS2a.n2 ?_
              refine TO.done ?_
              refine X.block_normal ?_
              refine X.block_normal ?_
              refine X.seq_normal ?_
              refine T.trim (AllF.cons (t := 1) rfl (AllF.cons (t := 2) rfl (AllF.cons (t := 6) rfl (AllF.cons (t := 13) rfl (AllF.cons (t := 14) rfl AllF.nil))))) ?_
              obtain ⟨g29, H⟩ := gd_some H
              refine T.regionL (ll := [0, 1]) rfl ?_
              refine TO.addG g29 rfl rfl rfl rfl rfl ?_
              refine TO.move rfl rfl rfl rfl ?_
              refine TO.done ?_
              have H := loop_next H C_1
              exact X.againE3 n_1 (xs8.set x10.toNat ((c0.Cap.getD x10.toNat 0) - (f1.getD (c0.Arc.getD x10.toNat 0).toNat 0))) (x10 + 1) ⟨H, (List.length_set.trans hn9)⟩ (Nat.lt_succ_self _) (AllF.cons rfl (AllF.cons rfl (AllF.cons rfl (AllF.cons rfl (AllF.cons rfl AllF.nil))))) (Pick.cons (Take.tail (Take.head _ _)) (Pick.cons (Take.head _ _) Pick.nil))
    ·
      refine T.condPF rfl g11 ?_
      refine T.exit ?_
      refine X.then_exit ?_
      have H := loop_exitE H C_1 ▸ K_1
      refine X.then_exit ?_
      refine X.block_here ?_
      exact X.metE1 xs8 ⟨H, hn9⟩ (AllF.cons rfl AllF.nil) (Pick.cons (Take.tail (Take.head _ _)) Pick.nil)
  · rintro xs30 ⟨H, hn31⟩
    unfold m_csr_Res_j3 at H
    refine T.seq ?_
    refine T.regionL (ll := [0, 1, 2]) rfl ?_
    refine TO.move rfl rfl rfl rfl ?_
    refine TO.assign rfl rfl rfl rfl ?_
    refine TO.assign rfl rfl rfl rfl ?_
    refine TO.done ?_
    refine X.seq_normal ?_
    refine T.ret ?_
    obtain ⟨rfl, rfl⟩ := ret2 H
    exact X.ret2 rfl rfl rfl rfl (Res.tmp rfl) (Res.tmp rfl) (Pick.cons (Take.head _ _) Pick.nil) ⟨(some b6), r3.toNat, r3.toNat, ([]), rfl, rfl, hn31, (Nat.le_refl _), (zeroJ _ _), someZ⟩
/-- acequia/csr.Flow$1 -/
theorem w_csr_Flow_1 {k0 : Int} {c1 : Int} {c1_k : Nat} (w : World) (h_c1_k : HB w [] c1_k [.int .i64 c1]) {r0 : Bool} (H : m_csr_Flow_1 k0 c1 = some r0) : Fnc Try.prog 57 #[.int .i64 k0, .pointer (some ⟨c1_k, 0, none⟩)] w [] (fun v N => v = .bool r0 ∧ N = []) := by
  unfold m_csr_Flow_1 at H
  refine Fnc.enter (vs := [.int .i64 k0, .pointer (some ⟨c1_k, 0, none⟩)]) Try.func57 rfl rfl (Inv.refl w) ?_
  refine T.seq ?_
  refine T.regionL (ll := [0]) rfl ?_
  refine TO.assign rfl rfl rfl rfl ?_
  refine TO.done ?_
  refine X.seq_normal ?_
  refine T.seq ?_
  refine T.regionL (ll := [0, 1, 2, 3]) rfl ?_
  refine TO.move rfl rfl rfl rfl ?_
  refine TO.ldHB h_c1_k rfl rfl rfl rfl rfl TWS2a.s3 ?_
  refine TO.bin rfl rfl rfl rfl rfl rfl ?_
  refine TO.assign rfl rfl rfl rfl ?_
  refine TO.done ?_
  refine X.seq_normal ?_
  refine T.ret ?_
  obtain rfl := ret1 H
  exact X.ret1 rfl rfl rfl rfl (Res.tmp rfl) Pick.nil ⟨rfl, rfl⟩
/-- slices.IndexFunc[[]int,int] -/
theorem w_slices_IndexFunc_int_Flow_1 {s0 : List Int} {f1_0 : Int} {s0_b : Option Addr} {s0_n : Nat} {s0_c : Nat} {f1_0_k : Nat} (w : World) (h_s0 : RS w [] (intC .i64) 1 s0_b s0_n s0_c s0) (h_f1_0_k : HB w [] f1_0_k [.int .i64 f1_0]) {r0 : Int} (H : m_slices_IndexFunc_int_Flow_1 s0 f1_0 = some r0) : Fnc Try.prog 77 #[.slice s0_b s0_n s0_c, .func (.func 57) #[] #[.pointer (some ⟨f1_0_k, 0, none⟩)]] w [] (fun v N => v = .int .i64 r0 ∧ N = []) := by
  unfold m_slices_IndexFunc_int_Flow_1 at H
  refine Fnc.enter (vs := [.slice s0_b s0_n s0_c, .func (.func 57) #[] #[.pointer (some ⟨f1_0_k, 0, none⟩)]]) Try.func77 rfl rfl (Inv.refl w) ?_
  refine T.seq ?_
  refine T.regionL (ll := [0]) rfl ?_
  refine TO.assign rfl rfl rfl rfl ?_
  refine TO.done ?_
  refine X.seq_normal ?_
  refine T.seq ?_
  refine T.seq ?_
  refine T.regionL (ll := [0, 1, 2]) rfl ?_
  refine TO.move rfl rfl rfl rfl ?_
  refine TO.lenX (xs := s0) h_s0.len rfl rfl rfl rfl rfl TWS2a.l30 ?_
  refine TO.move rfl rfl rfl rfl ?_
  refine TO.done ?_
  refine X.seq_normal ?_
  refine T.meetSE1 (fun (u8 : Unit) => m_slices_IndexFunc_int_Flow_1_j2 = some r0) (fun (u8 : Unit) => []) (fun (u8 : Unit) => []) ?_ ?_
  ·
    refine T.block ?_
    obtain ⟨o_1, e_1, K_1⟩ := bd_some H
    refine T.loopE2 (fun (m_1 : Nat) (x1 : Int) => loopM (fun s => m_slices_IndexFunc_int_Flow_1_s1 s0 f1_0 s) m_1 x1 = some o_1) (fun (m_1 : Nat) (x1 : Int) => [(0, .slice s0_b s0_n s0_c), (1, .func (.func 57) #[] #[.pointer (some ⟨f1_0_k, 0, none⟩)]), (7, .int .i64 (s0.length : Int)), (8, .int .i64 x1)]) (fun (m_1 : Nat) (x1 : Int) => []) (fun (m_1 : Nat) (x1 : Int) => m_1) FUEL 0 e_1 (AllF.cons rfl (AllF.cons rfl (AllF.cons rfl (AllF.cons rfl AllF.nil)))) Pick.nil ?_
    rintro m_1 x1 H
    obtain ⟨n_1, r_1, rfl, H, C_1⟩ := loopM_some H
    have H : m_slices_IndexFunc_int_Flow_1_s1 s0 f1_0 x1 = some r_1 := H
    unfold m_slices_IndexFunc_int_Flow_1_s1 at H
    refine T.seq ?_
    refine T.regionL (ll := [0]) rfl ?_
    refine TO.bin rfl rfl rfl rfl rfl rfl ?_
    refine TO.done ?_
    refine X.seq_normal ?_
    refine T.seq ?_
    rcases ite_some H with ⟨g2, H⟩ | ⟨g2, H⟩
    ·
      refine T.condPT rfl g2 ?_
      refine T.skip ?_
      refine X.seq_normal ?_
      refine T.seq ?_
      refine T.block ?_
      refine T.seq ?_
      refine T.regionL (ll := [0, 1]) rfl ?_
      refine TO.move rfl rfl rfl rfl ?_
      refine TO.assign rfl rfl rfl rfl ?_
      refine TO.done ?_
      refine X.seq_normal ?_
      refine T.seq ?_
      obtain ⟨g3, H⟩ := gd_some H
      obtain ⟨r4, e5, H⟩ := bd_some H
      refine T.regionL (ll := [0, 1, 2, 3, 4, 5]) rfl ?_
      refine TO.move rfl rfl rfl rfl ?_
      refine TO.move rfl rfl rfl rfl ?_
      refine TO.move rfl rfl rfl rfl ?_
      refine TO.ixR h_s0 g3 rfl rfl rfl rfl rfl TWS2a.l30 TWS2a.n3 ?_
      refine TO.ldIR h_s0 g3 rfl rfl rfl rfl TWS2a.s3 ?_
      refine TO.callVX TWS2a.c57 rfl rfl rfl rfl rfl (fun wc hwc => w_csr_Flow_1 (k0 := (s0.getD x1.toNat 0)) (c1 := f1_0) wc (h_f1_0_k.mono hwc) e5) ?_
      rintro _ _ ⟨rfl, rfl⟩
      refine TO.done ?_
      refine X.seq_normal ?_
      rcases ite_some H with ⟨g6, H⟩ | ⟨g6, H⟩
      ·
        refine T.condT rfl g6 ?_
        refine T.seq ?_
        refine T.regionL (ll := [0, 1]) rfl ?_
        refine TO.move rfl rfl rfl rfl ?_
        refine TO.assign rfl rfl rfl rfl ?_
        refine TO.done ?_
        refine X.seq_normal ?_
        refine T.trim (AllF.cons (t := 4) rfl AllF.nil) ?_
        refine T.ret ?_
        refine X.block_ret ?_
        refine X.then_ret ?_
        have H := loop_exitE H C_1 ▸ K_1
        refine X.then_ret ?_
        refine X.block_ret ?_
        refine X.then_ret ?_
        obtain rfl := ret1 H
        exact X.ret1 rfl rfl rfl rfl (Res.tmp rfl) Pick.nil ⟨rfl, rfl⟩
      ·
        refine T.condF rfl (Bool.eq_false_iff.2 g6) ?_
        refine T.skip ?_
        refine X.block_normal ?_
        refine X.seq_normal ?_
        refine T.trim (AllF.cons (t := 0) rfl (AllF.cons (t := 1) rfl (AllF.cons (t := 7) rfl (AllF.cons (t := 8) rfl AllF.nil)))) ?_
        obtain ⟨g7, H⟩ := gd_some H
        refine T.regionL (ll := [0, 1]) rfl ?_
        refine TO.addG g7 rfl rfl rfl rfl rfl ?_
        refine TO.move rfl rfl rfl rfl ?_
        refine TO.done ?_
        have H := loop_next H C_1
        exact X.againE2 n_1 (x1 + 1) H (Nat.lt_succ_self _) (AllF.cons rfl (AllF.cons rfl (AllF.cons rfl (AllF.cons rfl AllF.nil)))) Pick.nil
    ·
      refine T.condPF rfl g2 ?_
      refine T.exit ?_
      refine X.then_exit ?_
      have H := loop_exitE H C_1 ▸ K_1
      refine X.then_exit ?_
      refine X.block_here ?_
      exact X.metE1 () H AllF.nil Pick.nil
  · rintro u8 H
    unfold m_slices_IndexFunc_int_Flow_1_j2 at H
    refine T.seq ?_
    refine T.regionL (ll := [0]) rfl ?_
    refine TO.assign rfl rfl rfl rfl ?_
    refine TO.done ?_
    refine X.seq_normal ?_
    refine T.ret ?_
    obtain rfl := ret1 H
    exact X.ret1 rfl rfl rfl rfl (Res.tmp rfl) Pick.nil ⟨rfl, rfl⟩
/-- slices.ContainsFunc[[]int,int] -/
theorem w_slices_ContainsFunc_int_Flow_1 {s0 : List Int} {f1_0 : Int} {s0_b : Option Addr} {s0_n : Nat} {s0_c : Nat} {f1_0_k : Nat} (w : World) (h_s0 : RS w [] (intC .i64) 1 s0_b s0_n s0_c s0) (h_f1_0_k : HB w [] f1_0_k [.int .i64 f1_0]) {r0 : Bool} (H : m_slices_ContainsFunc_int_Flow_1 s0 f1_0 = some r0) : Fnc Try.prog 58 #[.slice s0_b s0_n s0_c, .func (.func 57) #[] #[.pointer (some ⟨f1_0_k, 0, none⟩)]] w [] (fun v N => v = .bool r0 ∧ N = []) := by
  unfold m_slices_ContainsFunc_int_Flow_1 at H
  refine Fnc.enter (vs := [.slice s0_b s0_n s0_c, .func (.func 57) #[] #[.pointer (some ⟨f1_0_k, 0, none⟩)]]) Try.func58 rfl rfl (Inv.refl w) ?_
  refine T.seq ?_
  refine T.regionL (ll := [0]) rfl ?_
  refine TO.assign rfl rfl rfl rfl ?_
  refine TO.done ?_
  refine X.seq_normal ?_
  refine T.seq ?_
  obtain ⟨r1, e2, H⟩ := bd_some H
  refine T.regionL (ll := [0, 1, 2, 3, 4]) rfl ?_
  refine TO.move rfl rfl rfl rfl ?_
  refine TO.move rfl rfl rfl rfl ?_
  refine TO.callX TWS2a.c77 rfl rfl rfl rfl (fun wc hwc => w_slices_IndexFunc_int_Flow_1 (s0 := s0) (f1_0 := f1_0) wc (h_s0.mono hwc) (h_f1_0_k.mono hwc) e2) ?_
  rintro _ _ ⟨rfl, rfl⟩
  refine TO.bin rfl rfl rfl rfl rfl rfl ?_
  refine TO.assign rfl rfl rfl rfl ?_
  refine TO.done ?_
  refine X.seq_normal ?_
  refine T.ret ?_
  obtain rfl := ret1 H
  exact X.ret1 rfl rfl rfl rfl (Res.tmp rfl) Pick.nil ⟨rfl, rfl⟩
/-- acequia/csr.Flow -/
theorem w_csr_Flow {c0 : Csr} {res1 : List Int} {arcs2 : Int} {c0_First_b : Option Addr} {c0_First_n : Nat} {c0_First_c : Nat} {c0_Head_b : Option Addr} {c0_Head_n : Nat} {c0_Head_c : Nat} {c0_Rev_b : Option Addr} {c0_Rev_n : Nat} {c0_Rev_c : Nat} {c0_Cap_b : Option Addr} {c0_Cap_n : Nat} {c0_Cap_c : Nat} {c0_Arc_b : Option Addr} {c0_Arc_n : Nat} {c0_Arc_c : Nat} {c0_Back_b : Option Addr} {c0_Back_n : Nat} {c0_Back_c : Nat} {res1_b : Option Addr} {res1_n : Nat} {res1_c : Nat} (w : World) (h_c0_First : RS w [] (intC .i64) 1 c0_First_b c0_First_n c0_First_c c0.First) (h_c0_Head : RS w [] (intC .i64) 1 c0_Head_b c0_Head_n c0_Head_c c0.Head) (h_c0_Rev : RS w [] (intC .i64) 1 c0_Rev_b c0_Rev_n c0_Rev_c c0.Rev) (h_c0_Cap : RS w [] (intC .i64) 1 c0_Cap_b c0_Cap_n c0_Cap_c c0.Cap) (h_c0_Arc : RS w [] (intC .i64) 1 c0_Arc_b c0_Arc_n c0_Arc_c c0.Arc) (h_c0_Back : RS w [] boolC 1 c0_Back_b c0_Back_n c0_Back_c c0.Back) (h_res1 : RS w [] (intC .i64) 1 res1_b res1_n res1_c res1) {r0 : List Int} {r1 : Int} (H : m_csr_Flow c0 res1 arcs2 = some (r0, r1)) : Fnc Try.prog 24 #[.agg #[.int .i64 c0.N, .int .i64 c0.S, .int .i64 c0.T, .slice c0_First_b c0_First_n c0_First_c, .slice c0_Head_b c0_Head_n c0_Head_c, .slice c0_Rev_b c0_Rev_n c0_Rev_c, .slice c0_Cap_b c0_Cap_n c0_Cap_c, .slice c0_Arc_b c0_Arc_n c0_Arc_c, .slice c0_Back_b c0_Back_n c0_Back_c], .slice res1_b res1_n res1_c, .int .i64 arcs2] w [] (fun v N => ∃ (ob_0 : Option Nat) (n_0 : Nat) (c_0 : Nat) (j_0 : List Value), v = .tuple #[.slice (sb ob_0) n_0 c_0, .int .i64 r1] ∧ N = [(ob_0, .cells (arr (intC .i64) r0 j_0).toArray 2 (0, 0))] ∧ r0.length = n_0 ∧ n_0 ≤ c_0 ∧ j_0.length = (c_0 - n_0) * 1 ∧ (ob_0 = none → c_0 = 0)) := by
  unfold m_csr_Flow at H
  refine Fnc.enter (vs := [.agg #[.int .i64 c0.N, .int .i64 c0.S, .int .i64 c0.T, .slice c0_First_b c0_First_n c0_First_c, .slice c0_Head_b c0_Head_n c0_Head_c, .slice c0_Rev_b c0_Rev_n c0_Rev_c, .slice c0_Cap_b c0_Cap_n c0_Cap_c, .slice c0_Arc_b c0_Arc_n c0_Arc_c, .slice c0_Back_b c0_Back_n c0_Back_c], .slice res1_b res1_n res1_c, .int .i64 arcs2]) Try.func24 rfl rfl (Inv.refl w) ?_
  refine T.seq ?_
  refine T.regionL (ll := [0, 1, 2, 3]) rfl ?_
  refine TO.boxA rfl rfl rfl rfl ?_; intro b1
  refine TO.box rfl rfl rfl rfl ?_; intro b3
  refine TO.assign rfl rfl rfl rfl ?_
  refine TO.assign rfl rfl rfl rfl ?_
  refine TO.done ?_
  refine X.seq_normal ?_
  refine T.seq ?_
  refine T.regionL (ll := [0, 1]) rfl ?_
  refine TO.makeFunc rfl rfl rfl rfl rfl ?_
  refine TO.assign rfl rfl rfl rfl ?_
  refine TO.done ?_
  refine X.seq_normal ?_
  refine T.seq ?_
  refine T.seq ?_
  refine T.meetSE1 (fun (x12 : Bool) => m_csr_Flow_j1 c0 res1 arcs2 x12 = some (r0, r1)) (fun (x12 : Bool) => [(1, .slice res1_b res1_n res1_c), (3, .pointer (some ⟨b1, 0, none⟩)), (5, .pointer (some ⟨b3, 0, none⟩)), (32, .bool x12)]) (fun (x12 : Bool) => [(some b1, .cells #[.int .i64 c0.N, .int .i64 c0.S, .int .i64 c0.T, .slice c0_First_b c0_First_n c0_First_c, .slice c0_Head_b c0_Head_n c0_Head_c, .slice c0_Rev_b c0_Rev_n c0_Rev_c, .slice c0_Cap_b c0_Cap_n c0_Cap_c, .slice c0_Arc_b c0_Arc_n c0_Arc_c, .slice c0_Back_b c0_Back_n c0_Back_c] 33 (0, 0)), (some b3, .cells #[.int .i64 arcs2] 3 (0, 0))]) ?_ ?_
  ·
    obtain ⟨r5, e6, H⟩ := bd_some H
    rcases ite_some H with ⟨g7, H⟩ | ⟨g7, H⟩
    ·
      refine T.regionL (ll := [0, 1, 2, 3, 4, 5, 6, 7, 8, 9, 10, 11, 12, 13, 14, 15, 16, 17, 18]) rfl ?_
      refine TO.move rfl rfl rfl rfl ?_
      refine TO.lenX (xs := res1) h_res1.len rfl rfl rfl rfl rfl TWS2a.l25 ?_
      refine TO.loadA rfl rfl rfl rfl TWS2a.a33 (List.Mem.tail _ (List.Mem.head _)) rfl ?_
      refine TO.callX TWS2a.c22 rfl rfl rfl rfl (fun wc hwc => w_csr_Len (c0 := c0) wc (h_c0_First.mono hwc) (h_c0_Head.mono hwc) (h_c0_Rev.mono hwc) (h_c0_Cap.mono hwc) (h_c0_Arc.mono hwc) (h_c0_Back.mono hwc) e6) ?_
      rintro _ _ ⟨rfl, rfl⟩
      refine TO.bin rfl rfl rfl rfl rfl rfl ?_
      refine TO.move rfl rfl rfl rfl ?_
      refine TO.decB (t := 19) (b' := true) rfl (decide_eq_true g7) ?_
      refine TO.shut rfl rfl rfl rfl ?_
      refine TO.shut rfl rfl rfl rfl ?_
      refine TO.pickT rfl rfl rfl rfl rfl ?_
      refine TO.move rfl rfl rfl rfl ?_
      refine TO.shut rfl rfl rfl rfl ?_
      refine TO.shut rfl rfl rfl rfl ?_
      refine TO.pickT rfl rfl rfl rfl rfl ?_
      refine TO.move rfl rfl rfl rfl ?_
      refine TO.shut rfl rfl rfl rfl ?_
      refine TO.shut rfl rfl rfl rfl ?_
      refine TO.shut rfl rfl rfl rfl ?_
      refine TO.shut rfl rfl rfl rfl ?_
      refine TO.pickT rfl rfl rfl rfl rfl ?_
      refine TO.done ?_
      exact X.metE1 true H (AllF.cons rfl (AllF.cons rfl (AllF.cons rfl (AllF.cons rfl AllF.nil)))) (Pick.cons (Take.tail (Take.head _ _)) (Pick.cons (Take.head _ _) Pick.nil))
    ·
      rcases ite_some H with ⟨g8, H⟩ | ⟨g8, H⟩
      ·
        refine T.regionL (ll := [0, 1, 2, 3, 4, 5, 6, 7, 8, 9, 10, 11, 12, 13, 14, 15, 16, 17, 18]) rfl ?_
        refine TO.move rfl rfl rfl rfl ?_
        refine TO.lenX (xs := res1) h_res1.len rfl rfl rfl rfl rfl TWS2a.l25 ?_
        refine TO.loadA rfl rfl rfl rfl TWS2a.a33 (List.Mem.tail _ (List.Mem.head _)) rfl ?_
        refine TO.callX TWS2a.c22 rfl rfl rfl rfl (fun wc hwc => w_csr_Len (c0 := c0) wc (h_c0_First.mono hwc) (h_c0_Head.mono hwc) (h_c0_Rev.mono hwc) (h_c0_Cap.mono hwc) (h_c0_Arc.mono hwc) (h_c0_Back.mono hwc) e6) ?_
        rintro _ _ ⟨rfl, rfl⟩
        refine TO.bin rfl rfl rfl rfl rfl rfl ?_
        refine TO.move rfl rfl rfl rfl ?_
        refine TO.decB (t := 19) (b' := false) rfl (decide_eq_false g7) ?_
        refine TO.load1 rfl rfl rfl rfl TWS2a.s3 (List.Mem.head _) rfl ?_
        refine TO.bin rfl rfl rfl rfl rfl rfl ?_
        refine TO.pickF rfl rfl rfl rfl rfl ?_
        refine TO.move rfl rfl rfl rfl ?_
        refine TO.decB (t := 23) (b' := true) rfl (decide_eq_true g8) ?_
        refine TO.shut rfl rfl rfl rfl ?_
        refine TO.shut rfl rfl rfl rfl ?_
        refine TO.pickT rfl rfl rfl rfl rfl ?_
        refine TO.move rfl rfl rfl rfl ?_
        refine TO.shut rfl rfl rfl rfl ?_
        refine TO.shut rfl rfl rfl rfl ?_
        refine TO.shut rfl rfl rfl rfl ?_
        refine TO.shut rfl rfl rfl rfl ?_
        refine TO.pickT rfl rfl rfl rfl rfl ?_
        refine TO.done ?_
        exact X.metE1 true H (AllF.cons rfl (AllF.cons rfl (AllF.cons rfl (AllF.cons rfl AllF.nil)))) (Pick.cons (Take.tail (Take.head _ _)) (Pick.cons (Take.head _ _) Pick.nil))
      ·
        rcases ite_some H with ⟨g9, H⟩ | ⟨g9, H⟩
        ·
          refine T.regionL (ll := [0, 1, 2, 3, 4, 5, 6, 7, 8, 9, 10, 11, 12, 13, 14, 15, 16, 17, 18]) rfl ?_
          refine TO.move rfl rfl rfl rfl ?_
          refine TO.lenX (xs := res1) h_res1.len rfl rfl rfl rfl rfl TWS2a.l25 ?_
          refine TO.loadA rfl rfl rfl rfl TWS2a.a33 (List.Mem.tail _ (List.Mem.head _)) rfl ?_
          refine TO.callX TWS2a.c22 rfl rfl rfl rfl (fun wc hwc => w_csr_Len (c0 := c0) wc (h_c0_First.mono hwc) (h_c0_Head.mono hwc) (h_c0_Rev.mono hwc) (h_c0_Cap.mono hwc) (h_c0_Arc.mono hwc) (h_c0_Back.mono hwc) e6) ?_
          rintro _ _ ⟨rfl, rfl⟩
          refine TO.bin rfl rfl rfl rfl rfl rfl ?_
          refine TO.move rfl rfl rfl rfl ?_
          refine TO.decB (t := 19) (b' := false) rfl (decide_eq_false g7) ?_
          refine TO.load1 rfl rfl rfl rfl TWS2a.s3 (List.Mem.head _) rfl ?_
          refine TO.bin rfl rfl rfl rfl rfl rfl ?_
          refine TO.pickF rfl rfl rfl rfl rfl ?_
          refine TO.move rfl rfl rfl rfl ?_
          refine TO.decB (t := 23) (b' := false) rfl (decide_eq_false g8) ?_
          refine TO.load1 rfl rfl rfl rfl TWS2a.s3 (List.Mem.head _) rfl ?_
          refine TO.bin rfl rfl rfl rfl rfl rfl ?_
          refine TO.pickF rfl rfl rfl rfl rfl ?_
          refine TO.move rfl rfl rfl rfl ?_
          refine TO.decB (t := 27) (b' := true) rfl (decide_eq_true g9) ?_
          refine TO.shut rfl rfl rfl rfl ?_
          refine TO.shut rfl rfl rfl rfl ?_
          refine TO.shut rfl rfl rfl rfl ?_
          refine TO.shut rfl rfl rfl rfl ?_
          refine TO.pickT rfl rfl rfl rfl rfl ?_
          refine TO.done ?_
          exact X.metE1 true H (AllF.cons rfl (AllF.cons rfl (AllF.cons rfl (AllF.cons rfl AllF.nil)))) (Pick.cons (Take.tail (Take.head _ _)) (Pick.cons (Take.head _ _) Pick.nil))
        ·
          obtain ⟨r10, e11, H⟩ := bd_some H
          refine T.regionL (ll := [0, 1, 2, 3, 4, 5, 6, 7, 8, 9, 10, 11, 12, 13, 14, 15, 16, 17, 18]) rfl ?_
          refine TO.move rfl rfl rfl rfl ?_
          refine TO.lenX (xs := res1) h_res1.len rfl rfl rfl rfl rfl TWS2a.l25 ?_
          refine TO.loadA rfl rfl rfl rfl TWS2a.a33 (List.Mem.tail _ (List.Mem.head _)) rfl ?_
          refine TO.callX TWS2a.c22 rfl rfl rfl rfl (fun wc hwc => w_csr_Len (c0 := c0) wc (h_c0_First.mono hwc) (h_c0_Head.mono hwc) (h_c0_Rev.mono hwc) (h_c0_Cap.mono hwc) (h_c0_Arc.mono hwc) (h_c0_Back.mono hwc) e6) ?_
          rintro _ _ ⟨rfl, rfl⟩
          refine TO.bin rfl rfl rfl rfl rfl rfl ?_
          refine TO.move rfl rfl rfl rfl ?_
          refine TO.decB (t := 19) (b' := false) rfl (decide_eq_false g7) ?_
          refine TO.load1 rfl rfl rfl rfl TWS2a.s3 (List.Mem.head _) rfl ?_
          refine TO.bin rfl rfl rfl rfl rfl rfl ?_
          refine TO.pickF rfl rfl rfl rfl rfl ?_
          refine TO.move rfl rfl rfl rfl ?_
          refine TO.decB (t := 23) (b' := false) rfl (decide_eq_false g8) ?_
          refine TO.load1 rfl rfl rfl rfl TWS2a.s3 (List.Mem.head _) rfl ?_
          refine TO.bin rfl rfl rfl rfl rfl rfl ?_
          refine TO.pickF rfl rfl rfl rfl rfl ?_
          refine TO.move rfl rfl rfl rfl ?_
          refine TO.decB (t := 27) (b' := false) rfl (decide_eq_false g9) ?_
          refine TO.fieldAddr0 rfl rfl rfl rfl TWS2a.f33_7 ?_
          refine TO.load1 rfl rfl rfl rfl TWS2a.s30 (List.Mem.tail _ (List.Mem.head _)) rfl ?_
          refine TO.move rfl rfl rfl rfl ?_
          refine TO.callX TWS2a.c58 rfl rfl rfl rfl (fun wc hwc => w_slices_ContainsFunc_int_Flow_1 (s0 := c0.Arc) (f1_0 := arcs2) wc (h_c0_Arc.mono hwc) (hwc.hb (cs := [.int .i64 arcs2]) (List.Mem.head _)) e11) ?_
          rintro _ _ ⟨rfl, rfl⟩
          refine TO.pickF rfl rfl rfl rfl rfl ?_
          refine TO.done ?_
          exact X.metE1 r10 H (AllF.cons rfl (AllF.cons rfl (AllF.cons rfl (AllF.cons rfl AllF.nil)))) (Pick.cons (Take.tail (Take.head _ _)) (Pick.cons (Take.head _ _) Pick.nil))
  · rintro x12 H
    unfold m_csr_Flow_j1 at H
    rcases ite_some H with ⟨g13, H⟩ | ⟨g13, H⟩
    ·
      refine T.condT rfl g13 ?_
      refine T.seq ?_
      refine T.regionL (ll := [0, 1]) rfl ?_
      refine TO.assign rfl rfl rfl rfl ?_
      refine TO.assign rfl rfl rfl rfl ?_
      refine TO.done ?_
      refine X.seq_normal ?_
      refine T.ret ?_
      refine X.then_ret ?_
      obtain ⟨rfl, rfl⟩ := ret2 H
      exact X.ret2 rfl rfl rfl rfl (Res.tmp rfl) (Res.tmp rfl) (Pick.none Pick.nil) ⟨none, 0, 0, ([]), rfl, rfl, rfl, (Nat.le_refl _), (zeroJ 0 _), (fun _ => rfl)⟩
    ·
      refine T.condF rfl (Bool.eq_false_iff.2 g13) ?_
      refine T.skip ?_
      refine X.seq_normal ?_
      refine T.seq ?_
      obtain ⟨g14, H⟩ := gd_some H
      refine T.regionL (ll := [0, 1, 2]) rfl ?_
      refine TO.load1 rfl rfl rfl rfl TWS2a.s3 (List.Mem.tail _ (List.Mem.head _)) rfl ?_
      refine TO.mkI g14 rfl rfl rfl rfl rfl TWS2a.l25 TWS2a.n2 TWS2a.z2 TWS2a.b2 rfl ?_; intro b15
      refine TO.assign rfl rfl rfl rfl ?_
      refine TO.done ?_
      refine X.seq_normal ?_
      refine T.seq ?_
      refine T.seq ?_
      refine T.regionL (ll := [0, 1, 2]) rfl ?_
      refine TO.move rfl rfl rfl rfl ?_
      refine TO.lenX (xs := res1) h_res1.len rfl rfl rfl rfl rfl TWS2a.l25 ?_
      refine TO.move rfl rfl rfl rfl ?_
      refine TO.done ?_
      refine X.seq_normal ?_
      refine T.meetSE1 (fun (xs38 : List Int) => m_csr_Flow_j4 xs38 = some (r0, r1) ∧ xs38.length = arcs2.toNat) (fun (xs38 : List Int) => [(9, .slice (some ⟨b15, 0, none⟩) arcs2.toNat arcs2.toNat)]) (fun (xs38 : List Int) => [(some b15, .cells (arr (intC .i64) xs38 ([])).toArray 2 (0, 0))]) ?_ ?_
      ·
        refine T.block ?_
        obtain ⟨o_2, e_2, K_2⟩ := bd_some H
        refine T.loopE3 (fun (m_2 : Nat) (xs17 : List Int) (x19 : Int) => loopM (fun s => m_csr_Flow_s2 c0 res1 s.1 s.2) m_2 (xs17, x19) = some o_2 ∧ xs17.length = arcs2.toNat) (fun (m_2 : Nat) (xs17 : List Int) (x19 : Int) => [(1, .slice res1_b res1_n res1_c), (3, .pointer (some ⟨b1, 0, none⟩)), (9, .slice (some ⟨b15, 0, none⟩) arcs2.toNat arcs2.toNat), (35, .slice res1_b res1_n res1_c), (36, .int .i64 (res1.length : Int)), (37, .int .i64 x19)]) (fun (m_2 : Nat) (xs17 : List Int) (x19 : Int) => [(some b1, .cells #[.int .i64 c0.N, .int .i64 c0.S, .int .i64 c0.T, .slice c0_First_b c0_First_n c0_First_c, .slice c0_Head_b c0_Head_n c0_Head_c, .slice c0_Rev_b c0_Rev_n c0_Rev_c, .slice c0_Cap_b c0_Cap_n c0_Cap_c, .slice c0_Arc_b c0_Arc_n c0_Arc_c, .slice c0_Back_b c0_Back_n c0_Back_c] 33 (0, 0)), (some b15, .cells (arr (intC .i64) xs17 ([])).toArray 2 (0, 0))]) (fun (m_2 : Nat) (xs17 : List Int) (x19 : Int) => m_2) FUEL (List.replicate arcs2.toNat (0 : Int)) 0 ⟨e_2, List.length_replicate⟩ (AllF.cons rfl (AllF.cons rfl (AllF.cons rfl (AllF.cons rfl (AllF.cons rfl (AllF.cons rfl AllF.nil)))))) (Pick.cons (Take.tail (Take.head _ _)) (Pick.cons (Take.head _ _) Pick.nil)) ?_
        rintro m_2 xs17 x19 ⟨H, hn18⟩
        obtain ⟨n_2, r_2, rfl, H, C_2⟩ := loopM_some H
        have H : m_csr_Flow_s2 c0 res1 xs17 x19 = some r_2 := H
        unfold m_csr_Flow_s2 at H
        refine T.seq ?_
        refine T.regionL (ll := [0]) rfl ?_
        refine TO.bin rfl rfl rfl rfl rfl rfl ?_
        refine TO.done ?_
        refine X.seq_normal ?_
        refine T.seq ?_
        rcases ite_some H with ⟨g20, H⟩ | ⟨g20, H⟩
        ·
          refine T.condPT rfl g20 ?_
          refine T.skip ?_
          refine X.seq_normal ?_
          refine T.seq ?_
          refine T.block ?_
          refine T.seq ?_
          obtain ⟨g21, H⟩ := gd_some H
          refine T.regionL (ll := [0, 1, 2, 3, 4]) rfl ?_
          refine TO.move rfl rfl rfl rfl ?_
          refine TO.ixR h_res1 g21 rfl rfl rfl rfl rfl TWS2a.l25 TWS2a.n2 ?_
          refine TO.ldIR h_res1 g21 rfl rfl rfl rfl TWS2a.s2 ?_
          refine TO.assign rfl rfl rfl rfl ?_
          refine TO.assign rfl rfl rfl rfl ?_
          refine TO.done ?_
          refine X.seq_normal ?_
          refine T.seq ?_
          obtain ⟨g22, H⟩ := gd_some H
          obtain ⟨g23, H⟩ := gd_some H
          obtain ⟨g24, H⟩ := gd_some H
          apply T.drawQT [(42, _), (43, _), (44, _), (45, _), (46, _), (47, _), (48, _), (49, _), (50, _), (51, _), (52, _), (53, _), (54, _), (55, _)]
          · exact mixed
          · kernel_rfl
          · kernel_rfl
          · exact rfl
          · exact rfl
          · refine ⟨?_, ?_, ?_, ?_, ?_, ?_, ?_, ?_, ?_, ?_, ?_, ?_, ?_, ?_, trivial⟩
            · intro Es
              refine TO.fieldAddr0 rfl rfl rfl rfl TWS2a.f33_6 ?_
              exact TO.done (X.ob rfl (Pick.refl _))
            · intro Es
              refine TO.load1 rfl rfl rfl rfl TWS2a.s25 (List.Mem.head _) rfl ?_
              exact TO.done (X.ob rfl (Pick.refl _))
            · intro Es
              refine TO.move rfl rfl rfl rfl ?_
              exact TO.done (X.ob rfl (Pick.refl _))
            · intro Es
              refine TO.ixR h_c0_Cap g22 rfl rfl rfl rfl rfl TWS2a.l25 TWS2a.n2 ?_
              exact TO.done (X.ob rfl (Pick.refl _))
            · intro Es
              refine TO.ldIR h_c0_Cap g22 rfl rfl rfl rfl TWS2a.s2 ?_
              exact TO.done (X.ob rfl (Pick.refl _))
            · intro Es
              refine TO.fieldAddr0 rfl rfl rfl rfl TWS2a.f33_6 ?_
              exact TO.done (X.ob rfl (Pick.refl _))
            · intro Es
              refine TO.load1 rfl rfl rfl rfl TWS2a.s25 (List.Mem.head _) rfl ?_
              exact TO.done (X.ob rfl (Pick.refl _))
            · intro Es
              refine TO.fieldAddr0 rfl rfl rfl rfl TWS2a.f33_5 ?_
              exact TO.done (X.ob rfl (Pick.refl _))
            · intro Es
              refine TO.load1 rfl rfl rfl rfl TWS2a.s30 (List.Mem.head _) rfl ?_
              exact TO.done (X.ob rfl (Pick.refl _))
            · intro Es
              refine TO.move rfl rfl rfl rfl ?_
              exact TO.done (X.ob rfl (Pick.refl _))
            · intro Es
              refine TO.ixR h_c0_Rev g23 rfl rfl rfl rfl rfl TWS2a.l30 TWS2a.n3 ?_
              exact TO.done (X.ob rfl (Pick.refl _))
            · intro Es
              refine TO.ldIR h_c0_Rev g23 rfl rfl rfl rfl TWS2a.s3 ?_
              exact TO.done (X.ob rfl (Pick.refl _))
            · intro Es
              refine TO.ixR h_c0_Cap g24 rfl rfl rfl rfl rfl TWS2a.l25 TWS2a.n2 ?_
              exact TO.done (X.ob rfl (Pick.refl _))
            · intro Es
              refine TO.ldIR h_c0_Cap g24 rfl rfl rfl rfl TWS2a.s2 ?_
              exact TO.done (X.ob rfl (Pick.refl _))
          refine TO.max2 rfl rfl rfl rfl rfl ?_
          refine TO.assign rfl rfl rfl rfl ?_
          refine TO.done ?_
          refine X.seq_normal ?_
          refine T.trim (AllF.cons (t := 1) rfl (AllF.cons (t := 3) rfl (AllF.cons (t := 9) rfl (AllF.cons (t := 35) rfl (AllF.cons (t := 36) rfl (AllF.cons (t := 37) rfl (AllF.cons (t := 10) rfl (AllF.cons (t := 11) rfl (AllF.cons (t := 12) rfl AllF.nil))))))))) ?_
          refine T.block ?_
          refine T.seq ?_
          refine T.meetSE1 (fun (x30 : Bool) => m_csr_Flow_j3 c0 res1 xs17 x19 x30 = some r_2) (fun (x30 : Bool) => [(1, .slice res1_b res1_n res1_c), (3, .pointer (some ⟨b1, 0, none⟩)), (9, .slice (some ⟨b15, 0, none⟩) arcs2.toNat arcs2.toNat), (10, .int .i64 x19), (11, .int .i64 (res1.getD x19.toNat 0)), (35, .slice res1_b res1_n res1_c), (36, .int .i64 (res1.length : Int)), (37, .int .i64 x19), (57, .bool x30)]) (fun (x30 : Bool) => [(some b1, .cells #[.int .i64 c0.N, .int .i64 c0.S, .int .i64 c0.T, .slice c0_First_b c0_First_n c0_First_c, .slice c0_Head_b c0_Head_n c0_Head_c, .slice c0_Rev_b c0_Rev_n c0_Rev_c, .slice c0_Cap_b c0_Cap_n c0_Cap_c, .slice c0_Arc_b c0_Arc_n c0_Arc_c, .slice c0_Back_b c0_Back_n c0_Back_c] 33 (0, 0)), (some b15, .cells (arr (intC .i64) xs17 ([])).toArray 2 (0, 0))]) ?_ ?_
          ·
            rcases ite_some H with ⟨g25, H⟩ | ⟨g25, H⟩
            ·
              refine T.regionL (ll := [0, 1, 2, 3, 4, 5, 6, 7, 8, 9, 10, 11, 12, 13, 14, 15, 16, 17, 18, 19, 20, 21]) rfl ?_
              refine TO.move rfl rfl rfl rfl ?_
              refine TO.bin rfl rfl rfl rfl rfl rfl ?_
              refine TO.move rfl rfl rfl rfl ?_
              refine TO.decB (t := 60) (b' := true) rfl (decide_eq_true g25) ?_
              refine TO.shut rfl rfl rfl rfl ?_
              refine TO.shut rfl rfl rfl rfl ?_
              refine TO.shut rfl rfl rfl rfl ?_
              refine TO.pickT rfl rfl rfl rfl rfl ?_
              refine TO.move rfl rfl rfl rfl ?_
              refine TO.shut rfl rfl rfl rfl ?_
              refine TO.shut rfl rfl rfl rfl ?_
              refine TO.shut rfl rfl rfl rfl ?_
              refine TO.shut rfl rfl rfl rfl ?_
              refine TO.shut rfl rfl rfl rfl ?_
              refine TO.shut rfl rfl rfl rfl ?_
              refine TO.shut rfl rfl rfl rfl ?_
              refine TO.shut rfl rfl rfl rfl ?_
              refine TO.shut rfl rfl rfl rfl ?_
              refine TO.shut rfl rfl rfl rfl ?_
              refine TO.shut rfl rfl rfl rfl ?_
              refine TO.shut rfl rfl rfl rfl ?_
              refine TO.pickT rfl rfl rfl rfl rfl ?_
              refine TO.assign rfl rfl rfl rfl ?_
              refine TO.done ?_
              exact X.metE1 true H (AllF.cons rfl (AllF.cons rfl (AllF.cons rfl (AllF.cons rfl (AllF.cons rfl (AllF.cons rfl (AllF.cons rfl (AllF.cons rfl (AllF.cons rfl AllF.nil))))))))) (Pick.cons (Take.head _ _) (Pick.cons (Take.head _ _) Pick.nil))
            ·
              rcases ite_some H with ⟨g26, H⟩ | ⟨g26, H⟩
              ·
                refine T.regionL (ll := [0, 1, 2, 3, 4, 5, 6, 7, 8, 9, 10, 11, 12, 13, 14, 15, 16, 17, 18, 19, 20, 21]) rfl ?_
                refine TO.move rfl rfl rfl rfl ?_
                refine TO.bin rfl rfl rfl rfl rfl rfl ?_
                refine TO.move rfl rfl rfl rfl ?_
                refine TO.decB (t := 60) (b' := false) rfl (decide_eq_false g25) ?_
                refine TO.move rfl rfl rfl rfl ?_
                refine TO.move rfl rfl rfl rfl ?_
                refine TO.bin rfl rfl rfl rfl rfl rfl ?_
                refine TO.pickF rfl rfl rfl rfl rfl ?_
                refine TO.move rfl rfl rfl rfl ?_
                refine TO.decB (t := 65) (b' := true) rfl (decide_eq_true g26) ?_
                refine TO.shut rfl rfl rfl rfl ?_
                refine TO.shut rfl rfl rfl rfl ?_
                refine TO.shut rfl rfl rfl rfl ?_
                refine TO.shut rfl rfl rfl rfl ?_
                refine TO.shut rfl rfl rfl rfl ?_
                refine TO.shut rfl rfl rfl rfl ?_
                refine TO.shut rfl rfl rfl rfl ?_
                refine TO.shut rfl rfl rfl rfl ?_
                refine TO.shut rfl rfl rfl rfl ?_
                refine TO.shut rfl rfl rfl rfl ?_
                refine TO.shut rfl rfl rfl rfl ?_
                refine TO.shut rfl rfl rfl rfl ?_
                refine TO.pickT rfl rfl rfl rfl rfl ?_
                refine TO.assign rfl rfl rfl rfl ?_
                refine TO.done ?_
                exact X.metE1 true H (AllF.cons rfl (AllF.cons rfl (AllF.cons rfl (AllF.cons rfl (AllF.cons rfl (AllF.cons rfl (AllF.cons rfl (AllF.cons rfl (AllF.cons rfl AllF.nil))))))))) (Pick.cons (Take.head _ _) (Pick.cons (Take.head _ _) Pick.nil))
              ·
                obtain ⟨g27, H⟩ := gd_some H
                obtain ⟨g28, H⟩ := gd_some H
                obtain ⟨g29, H⟩ := gd_some H
                refine T.regionL (ll := [0, 1, 2, 3, 4, 5, 6, 7, 8, 9, 10, 11, 12, 13, 14, 15, 16, 17, 18, 19, 20, 21]) rfl ?_
                refine TO.move rfl rfl rfl rfl ?_
                refine TO.bin rfl rfl rfl rfl rfl rfl ?_
                refine TO.move rfl rfl rfl rfl ?_
                refine TO.decB (t := 60) (b' := false) rfl (decide_eq_false g25) ?_
                refine TO.move rfl rfl rfl rfl ?_
                refine TO.move rfl rfl rfl rfl ?_
                refine TO.bin rfl rfl rfl rfl rfl rfl ?_
                refine TO.pickF rfl rfl rfl rfl rfl ?_
                refine TO.move rfl rfl rfl rfl ?_
                refine TO.decB (t := 65) (b' := false) rfl (decide_eq_false g26) ?_
                refine TO.move rfl rfl rfl rfl ?_
                refine TO.fieldAddr0 rfl rfl rfl rfl TWS2a.f33_5 ?_
                refine TO.load1 rfl rfl rfl rfl TWS2a.s30 (List.Mem.head _) rfl ?_
                refine TO.move rfl rfl rfl rfl ?_
                refine TO.ixR h_c0_Rev g27 rfl rfl rfl rfl rfl TWS2a.l30 TWS2a.n3 ?_
                refine TO.ldIR h_c0_Rev g27 rfl rfl rfl rfl TWS2a.s3 ?_
                refine TO.ixR h_res1 g28 rfl rfl rfl rfl rfl TWS2a.l25 TWS2a.n2 ?_
                refine TO.ldIR h_res1 g28 rfl rfl rfl rfl TWS2a.s2 ?_
                refine TO.move rfl rfl rfl rfl ?_
                refine TO.move rfl rfl rfl rfl ?_
                refine TO.subG g29 rfl rfl rfl rfl rfl ?_
                refine TO.bin rfl rfl rfl rfl rfl rfl ?_
                refine TO.pickF rfl rfl rfl rfl rfl ?_
                refine TO.assign rfl rfl rfl rfl ?_
                refine TO.done ?_
                exact X.metE1 (decide ((res1.getD (c0.Rev.getD x19.toNat 0).toNat 0) ≠ ((max (c0.Cap.getD x19.toNat 0) (c0.Cap.getD (c0.Rev.getD x19.toNat 0).toNat 0)) - (res1.getD x19.toNat 0)))) H (AllF.cons rfl (AllF.cons rfl (AllF.cons rfl (AllF.cons rfl (AllF.cons rfl (AllF.cons rfl (AllF.cons rfl (AllF.cons rfl (AllF.cons rfl AllF.nil))))))))) (Pick.cons (Take.head _ _) (Pick.cons (Take.head _ _) Pick.nil))
          · rintro x30 H
            unfold m_csr_Flow_j3 at H
            rcases ite_some H with ⟨g31, H⟩ | ⟨g31, H⟩
            ·
              refine T.condT rfl g31 ?_
              refine T.seq ?_
              refine T.regionL (ll := [0, 1]) rfl ?_
              refine TO.assign rfl rfl rfl rfl ?_
              refine TO.assign rfl rfl rfl rfl ?_
              refine TO.done ?_
              refine X.seq_normal ?_
              refine T.trim (AllF.cons (t := 6) rfl (AllF.cons (t := 7) rfl AllF.nil)) ?_
              refine T.ret ?_
              refine X.block_ret ?_
              refine X.block_ret ?_
              refine X.then_ret ?_
              have H := loop_exitE H C_2 ▸ K_2
              refine X.then_ret ?_
              refine X.block_ret ?_
              refine X.then_ret ?_
              obtain ⟨rfl, rfl⟩ := ret2 H
              exact X.ret2 rfl rfl rfl rfl (Res.tmp rfl) (Res.tmp rfl) (Pick.none Pick.nil) ⟨none, 0, 0, ([]), rfl, rfl, rfl, (Nat.le_refl _), (zeroJ 0 _), (fun _ => rfl)⟩
            ·
              refine T.condF rfl (Bool.eq_false_iff.2 g31) ?_
              refine T.seq ?_
              obtain ⟨g32, H⟩ := gd_some H
              refine T.regionL (ll := [0, 1, 2, 3, 4, 5]) rfl ?_
              refine TO.fieldAddr0 rfl rfl rfl rfl TWS2a.f33_8 ?_
              refine TO.load1 rfl rfl rfl rfl TWS2a.s31 (List.Mem.head _) rfl ?_
              refine TO.move rfl rfl rfl rfl ?_
              refine TO.ixR h_c0_Back g32 rfl rfl rfl rfl rfl TWS2a.l31 TWS2a.n4 ?_
              refine TO.ldBR h_c0_Back g32 rfl rfl rfl rfl TWS2a.s4 ?_
              refine TO.assign rfl rfl rfl rfl ?_
              refine TO.done ?_
              refine X.seq_normal ?_
              rcases ite_some H with ⟨g33, H⟩ | ⟨g33, H⟩
              ·
                refine T.condT rfl g33 ?_
                obtain ⟨g34, H⟩ := gd_some H
                obtain ⟨g35, H⟩ := gd_some H
                refine T.regionL (ll := [0, 1, 2, 3, 4, 5, 6, 7, 8]) rfl ?_
                refine TO.move rfl rfl rfl rfl ?_
                refine TO.fieldAddr0 rfl rfl rfl rfl TWS2a.f33_7 ?_
                refine TO.load1 rfl rfl rfl rfl TWS2a.s30 (List.Mem.head _) rfl ?_
                refine TO.move rfl rfl rfl rfl ?_
                refine TO.ixR h_c0_Arc g34 rfl rfl rfl rfl rfl TWS2a.l30 TWS2a.n3 ?_
                refine TO.ldIR h_c0_Arc g34 rfl rfl rfl rfl TWS2a.s3 ?_
                refine TO.move rfl rfl rfl rfl ?_
                refine TO.ix1 hn18 g35 rfl rfl rfl rfl rfl TWS2a.l25 TWS2a.n2 ?_
                refine TO.stIO g35 rfl rfl rfl rfl (Take.tail (Take.head _ _)) TWS2a.n2 ?_
                refine TO.done ?_
                refine X.block_normal ?_
                refine X.block_normal ?_
                refine X.seq_normal ?_
                refine T.trim (AllF.cons (t := 1) rfl (AllF.cons (t := 3) rfl (AllF.cons (t := 9) rfl (AllF.cons (t := 35) rfl (AllF.cons (t := 36) rfl (AllF.cons (t := 37) rfl AllF.nil)))))) ?_
                obtain ⟨g36, H⟩ := gd_some H
                refine T.regionL (ll := [0, 1]) rfl ?_
                refine TO.addG g36 rfl rfl rfl rfl rfl ?_
                refine TO.move rfl rfl rfl rfl ?_
                refine TO.done ?_
                have H := loop_next H C_2
                exact X.againE3 n_2 (xs17.set (c0.Arc.getD x19.toNat 0).toNat (res1.getD x19.toNat 0)) (x19 + 1) ⟨H, (List.length_set.trans hn18)⟩ (Nat.lt_succ_self _) (AllF.cons rfl (AllF.cons rfl (AllF.cons rfl (AllF.cons rfl (AllF.cons rfl (AllF.cons rfl AllF.nil)))))) (Pick.cons (Take.tail (Take.head _ _)) (Pick.cons (Take.head _ _) Pick.nil))
              ·
                refine T.condF rfl (Bool.eq_false_iff.2 g33) ?_
                refine T.skip ?_
                refine X.block_normal ?_
                refine X.block_normal ?_
                refine X.seq_normal ?_
                refine T.trim (AllF.cons (t := 1) rfl (AllF.cons (t := 3) rfl (AllF.cons (t := 9) rfl (AllF.cons (t := 35) rfl (AllF.cons (t := 36) rfl (AllF.cons (t := 37) rfl AllF.nil)))))) ?_
                obtain ⟨g37, H⟩ := gd_some H
                refine T.regionL (ll := [0, 1]) rfl ?_
                refine TO.addG g37 rfl rfl rfl rfl rfl ?_
                refine TO.move rfl rfl rfl rfl ?_
                refine TO.done ?_
                have H := loop_next H C_2
                exact X.againE3 n_2 xs17 (x19 + 1) ⟨H, hn18⟩ (Nat.lt_succ_self _) (AllF.cons rfl (AllF.cons rfl (AllF.cons rfl (AllF.cons rfl (AllF.cons rfl (AllF.cons rfl AllF.nil)))))) (Pick.cons (Take.head _ _) (Pick.cons (Take.head _ _) Pick.nil))
        ·
          refine T.condPF rfl g20 ?_
          refine T.exit ?_
          refine X.then_exit ?_
          have H := loop_exitE H C_2 ▸ K_2
          refine X.then_exit ?_
          refine X.block_here ?_
          exact X.metE1 xs17 ⟨H, hn18⟩ (AllF.cons rfl AllF.nil) (Pick.cons (Take.tail (Take.head _ _)) Pick.nil)
      · rintro xs38 ⟨H, hn39⟩
        unfold m_csr_Flow_j4 at H
        refine T.seq ?_
        refine T.regionL (ll := [0, 1, 2]) rfl ?_
        refine TO.move rfl rfl rfl rfl ?_
        refine TO.assign rfl rfl rfl rfl ?_
        refine TO.assign rfl rfl rfl rfl ?_
        refine TO.done ?_
        refine X.seq_normal ?_
        refine T.ret ?_
        obtain ⟨rfl, rfl⟩ := ret2 H
        exact X.ret2 rfl rfl rfl rfl (Res.tmp rfl) (Res.tmp rfl) (Pick.cons (Take.head _ _) Pick.nil) ⟨(some b15), arcs2.toNat, arcs2.toNat, ([]), rfl, rfl, hn39, (Nat.le_refl _), (zeroJ _ _), someZ⟩
/-- sort.SearchInts$1 -/
theorem w_sort_SearchInts_1 {i0 : Int} {c1 : List Int} {c2 : Int} {c1_k : Nat} {c1_b : Option Addr} {c1_n : Nat} {c1_c : Nat} {c2_k : Nat} (w : World) (h_c1 : RS w [] (intC .i64) 1 c1_b c1_n c1_c c1) (h_c1_k : HB w [] c1_k [.slice c1_b c1_n c1_c]) (h_c2_k : HB w [] c2_k [.int .i64 c2]) {r0 : Bool} (H : m_sort_SearchInts_1 i0 c1 c2 = some r0) : Fnc Try.prog 79 #[.int .i64 i0, .pointer (some ⟨c1_k, 0, none⟩), .pointer (some ⟨c2_k, 0, none⟩)] w [] (fun v N => v = .bool r0 ∧ N = []) := by
  unfold m_sort_SearchInts_1 at H
  refine Fnc.enter (vs := [.int .i64 i0, .pointer (some ⟨c1_k, 0, none⟩), .pointer (some ⟨c2_k, 0, none⟩)]) Try.func79 rfl rfl (Inv.refl w) ?_
  refine T.seq ?_
  refine T.regionL (ll := [0]) rfl ?_
  refine TO.assign rfl rfl rfl rfl ?_
  refine TO.done ?_
  refine X.seq_normal ?_
  refine T.seq ?_
  obtain ⟨g1, H⟩ := gd_some H
  apply T.drawQT [(5, _), (6, _), (7, _), (8, _), (9, _)]
  · exact mixed
  · kernel_rfl
  · kernel_rfl
  · exact rfl
  · exact rfl
  · refine ⟨?_, ?_, ?_, ?_, ?_, trivial⟩
    · intro Es
      refine TO.ldHB h_c1_k rfl rfl rfl rfl rfl TWS2a.s30 ?_
      exact TO.done (X.ob rfl (Pick.refl _))
    · intro Es
      refine TO.move rfl rfl rfl rfl ?_
      exact TO.done (X.ob rfl (Pick.refl _))
    · intro Es
      refine TO.ixR h_c1 g1 rfl rfl rfl rfl rfl TWS2a.l30 TWS2a.n3 ?_
      exact TO.done (X.ob rfl (Pick.refl _))
    · intro Es
      refine TO.ldIR h_c1 g1 rfl rfl rfl rfl TWS2a.s3 ?_
      exact TO.done (X.ob rfl (Pick.refl _))
    · intro Es
      refine TO.ldHB h_c2_k rfl rfl rfl rfl rfl TWS2a.s3 ?_
      exact TO.done (X.ob rfl (Pick.refl _))
  refine TO.bin rfl rfl rfl rfl rfl rfl ?_
  refine TO.assign rfl rfl rfl rfl ?_
  refine TO.done ?_
  refine X.seq_normal ?_
  refine T.trim (AllF.cons (t := 4) rfl AllF.nil) ?_
  refine T.ret ?_
  obtain rfl := ret1 H
  exact X.ret1 rfl rfl rfl rfl (Res.tmp rfl) Pick.nil ⟨rfl, rfl⟩
/-- sort.Search -/
theorem w_sort_Search_SearchInts_1 {n0 : Int} {f1_0 : List Int} {f1_1 : Int} {f1_0_k : Nat} {f1_0_b : Option Addr} {f1_0_n : Nat} {f1_0_c : Nat} {f1_1_k : Nat} (w : World) (h_f1_0 : RS w [] (intC .i64) 1 f1_0_b f1_0_n f1_0_c f1_0) (h_f1_0_k : HB w [] f1_0_k [.slice f1_0_b f1_0_n f1_0_c]) (h_f1_1_k : HB w [] f1_1_k [.int .i64 f1_1]) {r0 : Int} (H : m_sort_Search_SearchInts_1 n0 f1_0 f1_1 = some r0) : Fnc Try.prog 78 #[.int .i64 n0, .func (.func 79) #[] #[.pointer (some ⟨f1_0_k, 0, none⟩), .pointer (some ⟨f1_1_k, 0, none⟩)]] w [] (fun v N => v = .int .i64 r0 ∧ N = []) := by
  unfold m_sort_Search_SearchInts_1 at H
  refine Fnc.enter (vs := [.int .i64 n0, .func (.func 79) #[] #[.pointer (some ⟨f1_0_k, 0, none⟩), .pointer (some ⟨f1_1_k, 0, none⟩)]]) Try.func78 rfl rfl (Inv.refl w) ?_
  refine T.seq ?_
  refine T.regionL (ll := [0]) rfl ?_
  refine TO.assign rfl rfl rfl rfl ?_
  refine TO.done ?_
  refine X.seq_normal ?_
  refine T.seq ?_
  refine T.regionL (ll := [0, 1, 2]) rfl ?_
  refine TO.move rfl rfl rfl rfl ?_
  refine TO.assign rfl rfl rfl rfl ?_
  refine TO.assign rfl rfl rfl rfl ?_
  refine TO.done ?_
  refine X.seq_normal ?_
  refine T.seq ?_
  refine T.meetSE1 (fun (i11 : Int) => m_sort_Search_SearchInts_1_j2 i11 = some r0) (fun (i11 : Int) => [(5, .int .i64 i11)]) (fun (i11 : Int) => []) ?_ ?_
  ·
    refine T.block ?_
    obtain ⟨o_1, e_1, K_1⟩ := bd_some H
    refine T.loopE3 (fun (m_1 : Nat) (i1 : Int) (j2 : Int) => loopM (fun s => m_sort_Search_SearchInts_1_s1 f1_0 f1_1 s.1 s.2) m_1 (i1, j2) = some o_1) (fun (m_1 : Nat) (i1 : Int) (j2 : Int) => [(1, .func (.func 79) #[] #[.pointer (some ⟨f1_0_k, 0, none⟩), .pointer (some ⟨f1_1_k, 0, none⟩)]), (5, .int .i64 i1), (6, .int .i64 j2)]) (fun (m_1 : Nat) (i1 : Int) (j2 : Int) => []) (fun (m_1 : Nat) (i1 : Int) (j2 : Int) => m_1) FUEL 0 n0 e_1 (AllF.cons rfl (AllF.cons rfl (AllF.cons rfl AllF.nil))) Pick.nil ?_
    rintro m_1 i1 j2 H
    obtain ⟨n_1, r_1, rfl, H, C_1⟩ := loopM_some H
    have H : m_sort_Search_SearchInts_1_s1 f1_0 f1_1 i1 j2 = some r_1 := H
    unfold m_sort_Search_SearchInts_1_s1 at H
    refine T.seq ?_
    refine T.seq ?_
    refine T.regionL (ll := [0, 1, 2]) rfl ?_
    refine TO.move rfl rfl rfl rfl ?_
    refine TO.move rfl rfl rfl rfl ?_
    refine TO.bin rfl rfl rfl rfl rfl rfl ?_
    refine TO.done ?_
    refine X.seq_normal ?_
    rcases ite_some H with ⟨g3, H⟩ | ⟨g3, H⟩
    ·
      refine T.condPT rfl g3 ?_
      refine T.skip ?_
      refine X.seq_normal ?_
      refine T.block ?_
      refine T.seq ?_
      obtain ⟨g4, H⟩ := gd_some H
      obtain ⟨g5, H⟩ := gd_some H
      obtain ⟨g6, H⟩ := gd_some H
      refine T.regionL (ll := [0, 1, 2, 3, 4, 5, 6]) rfl ?_
      refine TO.move rfl rfl rfl rfl ?_
      refine TO.move rfl rfl rfl rfl ?_
      refine TO.addG g4 rfl rfl rfl rfl rfl ?_
      refine TO.convIn rfl rfl rfl rfl TWS2a.o3 TWS2a.i115 (wrap_u64_of g5) ?_
      refine TO.shrL (m := 1) rfl rfl rfl rfl rfl rfl rfl ?_
      refine TO.convIn rfl rfl rfl rfl TWS2a.o115 TWS2a.i3 (wrap_i64_of g6.1 g6.2) ?_
      refine TO.assign rfl rfl rfl rfl ?_
      refine TO.done ?_
      refine X.seq_normal ?_
      refine T.trim (AllF.cons (t := 1) rfl (AllF.cons (t := 5) rfl (AllF.cons (t := 6) rfl (AllF.cons (t := 7) rfl AllF.nil)))) ?_
      refine T.seq ?_
      obtain ⟨r7, e8, H⟩ := bd_some H
      refine T.regionL (ll := [0, 1, 2, 3]) rfl ?_
      refine TO.move rfl rfl rfl rfl ?_
      refine TO.move rfl rfl rfl rfl ?_
      refine TO.callVX TWS2a.c79 rfl rfl rfl rfl rfl (fun wc hwc => w_sort_SearchInts_1 (i0 := (Int.fdiv (i1 + j2) (2 ^ 1))) (c1 := f1_0) (c2 := f1_1) wc (h_f1_0.mono hwc) (h_f1_0_k.mono hwc) (h_f1_1_k.mono hwc) e8) ?_
      rintro _ _ ⟨rfl, rfl⟩
      refine TO.not rfl rfl rfl rfl ?_
      refine TO.done ?_
      refine X.seq_normal ?_
      rcases ite_some H with ⟨g9, H⟩ | ⟨g9, H⟩
      ·
        refine T.condT rfl g9 ?_
        obtain ⟨g10, H⟩ := gd_some H
        refine T.regionL (ll := [0, 1, 2]) rfl ?_
        refine TO.move rfl rfl rfl rfl ?_
        refine TO.addG g10 rfl rfl rfl rfl rfl ?_
        refine TO.assign rfl rfl rfl rfl ?_
        refine TO.done ?_
        refine X.block_normal ?_
        have H := loop_next H C_1
        exact X.againE3 n_1 ((Int.fdiv (i1 + j2) (2 ^ 1)) + 1) j2 H (Nat.lt_succ_self _) (AllF.cons rfl (AllF.cons rfl (AllF.cons rfl AllF.nil))) Pick.nil
      ·
        refine T.condF rfl (Bool.eq_false_iff.2 g9) ?_
        refine T.regionL (ll := [0, 1]) rfl ?_
        refine TO.move rfl rfl rfl rfl ?_
        refine TO.assign rfl rfl rfl rfl ?_
        refine TO.done ?_
        refine X.block_normal ?_
        have H := loop_next H C_1
        exact X.againE3 n_1 i1 (Int.fdiv (i1 + j2) (2 ^ 1)) H (Nat.lt_succ_self _) (AllF.cons rfl (AllF.cons rfl (AllF.cons rfl AllF.nil))) Pick.nil
    ·
      refine T.condPF rfl g3 ?_
      refine T.exit ?_
      refine X.then_exit ?_
      have H := loop_exitE H C_1 ▸ K_1
      refine X.then_exit ?_
      refine X.block_here ?_
      exact X.metE1 i1 H (AllF.cons rfl AllF.nil) Pick.nil
  · rintro i11 H
    unfold m_sort_Search_SearchInts_1_j2 at H
    refine T.seq ?_
    refine T.regionL (ll := [0, 1]) rfl ?_
    refine TO.move rfl rfl rfl rfl ?_
    refine TO.assign rfl rfl rfl rfl ?_
    refine TO.done ?_
    refine X.seq_normal ?_
    refine T.ret ?_
    obtain rfl := ret1 H
    exact X.ret1 rfl rfl rfl rfl (Res.tmp rfl) Pick.nil ⟨rfl, rfl⟩
/-- sort.SearchInts -/
theorem w_sort_SearchInts {a0 : List Int} {x1 : Int} {a0_b : Option Addr} {a0_n : Nat} {a0_c : Nat} (w : World) (h_a0 : RS w [] (intC .i64) 1 a0_b a0_n a0_c a0) {r0 : Int} (H : m_sort_SearchInts a0 x1 = some r0) : Fnc Try.prog 59 #[.slice a0_b a0_n a0_c, .int .i64 x1] w [] (fun v N => v = .int .i64 r0 ∧ N = []) := by
  unfold m_sort_SearchInts at H
  refine Fnc.enter (vs := [.slice a0_b a0_n a0_c, .int .i64 x1]) Try.func59 rfl rfl (Inv.refl w) ?_
  refine T.seq ?_
  refine T.regionL (ll := [0, 1, 2]) rfl ?_
  refine TO.box rfl rfl rfl rfl ?_; intro b1
  refine TO.box rfl rfl rfl rfl ?_; intro b3
  refine TO.assign rfl rfl rfl rfl ?_
  refine TO.done ?_
  refine X.seq_normal ?_
  refine T.seq ?_
  obtain ⟨r5, e6, H⟩ := bd_some H
  refine T.regionL (ll := [0, 1, 2, 3, 4]) rfl ?_
  refine TO.load1 rfl rfl rfl rfl TWS2a.s30 (List.Mem.tail _ (List.Mem.head _)) rfl ?_
  refine TO.lenX (xs := a0) h_a0.len rfl rfl rfl rfl rfl TWS2a.l30 ?_
  refine TO.makeFunc rfl rfl rfl rfl rfl ?_
  refine TO.callX TWS2a.c78 rfl rfl rfl rfl (fun wc hwc => w_sort_Search_SearchInts_1 (n0 := (a0.length : Int)) (f1_0 := a0) (f1_1 := x1) wc (h_a0.mono hwc) (hwc.hb (cs := [.slice a0_b a0_n a0_c]) (List.Mem.tail _ (List.Mem.head _))) (hwc.hb (cs := [.int .i64 x1]) (List.Mem.head _)) e6) ?_
  rintro _ _ ⟨rfl, rfl⟩
  refine TO.assign rfl rfl rfl rfl ?_
  refine TO.done ?_
  refine X.seq_normal ?_
  refine T.trim (AllF.cons (t := 4) rfl AllF.nil) ?_
  refine T.ret ?_
  obtain rfl := ret1 H
  exact X.ret1 rfl rfl rfl rfl (Res.tmp rfl) Pick.nil ⟨rfl, rfl⟩
/-- acequia/csr.Tail -/
theorem w_csr_Tail {c0 : Csr} {a1 : Int} {c0_First_b : Option Addr} {c0_First_n : Nat} {c0_First_c : Nat} {c0_Head_b : Option Addr} {c0_Head_n : Nat} {c0_Head_c : Nat} {c0_Rev_b : Option Addr} {c0_Rev_n : Nat} {c0_Rev_c : Nat} {c0_Cap_b : Option Addr} {c0_Cap_n : Nat} {c0_Cap_c : Nat} {c0_Arc_b : Option Addr} {c0_Arc_n : Nat} {c0_Arc_c : Nat} {c0_Back_b : Option Addr} {c0_Back_n : Nat} {c0_Back_c : Nat} (w : World) (h_c0_First : RS w [] (intC .i64) 1 c0_First_b c0_First_n c0_First_c c0.First) (h_c0_Head : RS w [] (intC .i64) 1 c0_Head_b c0_Head_n c0_Head_c c0.Head) (h_c0_Rev : RS w [] (intC .i64) 1 c0_Rev_b c0_Rev_n c0_Rev_c c0.Rev) (h_c0_Cap : RS w [] (intC .i64) 1 c0_Cap_b c0_Cap_n c0_Cap_c c0.Cap) (h_c0_Arc : RS w [] (intC .i64) 1 c0_Arc_b c0_Arc_n c0_Arc_c c0.Arc) (h_c0_Back : RS w [] boolC 1 c0_Back_b c0_Back_n c0_Back_c c0.Back) {r0 : Int} {r1 : Bool} (H : m_csr_Tail c0 a1 = some (r0, r1)) : Fnc Try.prog 26 #[.agg #[.int .i64 c0.N, .int .i64 c0.S, .int .i64 c0.T, .slice c0_First_b c0_First_n c0_First_c, .slice c0_Head_b c0_Head_n c0_Head_c, .slice c0_Rev_b c0_Rev_n c0_Rev_c, .slice c0_Cap_b c0_Cap_n c0_Cap_c, .slice c0_Arc_b c0_Arc_n c0_Arc_c, .slice c0_Back_b c0_Back_n c0_Back_c], .int .i64 a1] w [] (fun v N => v = .tuple #[.int .i64 r0, .bool r1] ∧ N = []) := by
  unfold m_csr_Tail at H
  refine Fnc.enter (vs := [.agg #[.int .i64 c0.N, .int .i64 c0.S, .int .i64 c0.T, .slice c0_First_b c0_First_n c0_First_c, .slice c0_Head_b c0_Head_n c0_Head_c, .slice c0_Rev_b c0_Rev_n c0_Rev_c, .slice c0_Cap_b c0_Cap_n c0_Cap_c, .slice c0_Arc_b c0_Arc_n c0_Arc_c, .slice c0_Back_b c0_Back_n c0_Back_c], .int .i64 a1]) Try.func26 rfl rfl (Inv.refl w) ?_
  refine T.seq ?_
  refine T.regionL (ll := [0, 1, 2]) rfl ?_
  refine TO.boxA rfl rfl rfl rfl ?_; intro b1
  refine TO.assign rfl rfl rfl rfl ?_
  refine TO.assign rfl rfl rfl rfl ?_
  refine TO.done ?_
  refine X.seq_normal ?_
  refine T.seq ?_
  refine T.seq ?_
  refine T.meetSE1 (fun (x6 : Bool) => m_csr_Tail_j1 c0 a1 x6 = some (r0, r1)) (fun (x6 : Bool) => [(1, .int .i64 a1), (2, .pointer (some ⟨b1, 0, none⟩)), (13, .bool x6)]) (fun (x6 : Bool) => [(some b1, .cells #[.int .i64 c0.N, .int .i64 c0.S, .int .i64 c0.T, .slice c0_First_b c0_First_n c0_First_c, .slice c0_Head_b c0_Head_n c0_Head_c, .slice c0_Rev_b c0_Rev_n c0_Rev_c, .slice c0_Cap_b c0_Cap_n c0_Cap_c, .slice c0_Arc_b c0_Arc_n c0_Arc_c, .slice c0_Back_b c0_Back_n c0_Back_c] 33 (0, 0))]) ?_ ?_
  ·
    rcases ite_some H with ⟨g3, H⟩ | ⟨g3, H⟩
    ·
      refine T.regionL (ll := [0, 1, 2, 3, 4, 5, 6, 7]) rfl ?_
      refine TO.move rfl rfl rfl rfl ?_
      refine TO.bin rfl rfl rfl rfl rfl rfl ?_
      refine TO.move rfl rfl rfl rfl ?_
      refine TO.decB (t := 8) (b' := true) rfl (decide_eq_true g3) ?_
      refine TO.shut rfl rfl rfl rfl ?_
      refine TO.shut rfl rfl rfl rfl ?_
      refine TO.shut rfl rfl rfl rfl ?_
      refine TO.shut rfl rfl rfl rfl ?_
      refine TO.pickT rfl rfl rfl rfl rfl ?_
      refine TO.done ?_
      exact X.metE1 true H (AllF.cons rfl (AllF.cons rfl (AllF.cons rfl AllF.nil))) (Pick.cons (Take.head _ _) Pick.nil)
    ·
      obtain ⟨r4, e5, H⟩ := bd_some H
      refine T.regionL (ll := [0, 1, 2, 3, 4, 5, 6, 7]) rfl ?_
      refine TO.move rfl rfl rfl rfl ?_
      refine TO.bin rfl rfl rfl rfl rfl rfl ?_
      refine TO.move rfl rfl rfl rfl ?_
      refine TO.decB (t := 8) (b' := false) rfl (decide_eq_false g3) ?_
      refine TO.move rfl rfl rfl rfl ?_
      refine TO.loadA rfl rfl rfl rfl TWS2a.a33 (List.Mem.head _) rfl ?_
      refine TO.callX TWS2a.c22 rfl rfl rfl rfl (fun wc hwc => w_csr_Len (c0 := c0) wc (h_c0_First.mono hwc) (h_c0_Head.mono hwc) (h_c0_Rev.mono hwc) (h_c0_Cap.mono hwc) (h_c0_Arc.mono hwc) (h_c0_Back.mono hwc) e5) ?_
      rintro _ _ ⟨rfl, rfl⟩
      refine TO.bin rfl rfl rfl rfl rfl rfl ?_
      refine TO.pickF rfl rfl rfl rfl rfl ?_
      refine TO.done ?_
      exact X.metE1 (decide (r4 ≤ a1)) H (AllF.cons rfl (AllF.cons rfl (AllF.cons rfl AllF.nil))) (Pick.cons (Take.head _ _) Pick.nil)
  · rintro x6 H
    unfold m_csr_Tail_j1 at H
    rcases ite_some H with ⟨g7, H⟩ | ⟨g7, H⟩
    ·
      refine T.condT rfl g7 ?_
      refine T.seq ?_
      refine T.regionL (ll := [0, 1]) rfl ?_
      refine TO.assign rfl rfl rfl rfl ?_
      refine TO.assign rfl rfl rfl rfl ?_
      refine TO.done ?_
      refine X.seq_normal ?_
      refine T.ret ?_
      refine X.then_ret ?_
      obtain ⟨rfl, rfl⟩ := ret2 H
      exact X.ret2 rfl rfl rfl rfl (Res.tmp rfl) (Res.tmp rfl) Pick.nil ⟨rfl, rfl⟩
    ·
      refine T.condF rfl (Bool.eq_false_iff.2 g7) ?_
      refine T.skip ?_
      refine X.seq_normal ?_
      refine T.seq ?_
      obtain ⟨g8, H⟩ := gd_some H
      obtain ⟨r9, e10, H⟩ := bd_some H
      obtain ⟨g11, H⟩ := gd_some H
      refine T.regionL (ll := [0, 1, 2, 3, 4, 5, 6, 7]) rfl ?_
      refine TO.fieldAddr0 rfl rfl rfl rfl TWS2a.f33_3 ?_
      refine TO.load1 rfl rfl rfl rfl TWS2a.s30 (List.Mem.head _) rfl ?_
      refine TO.move rfl rfl rfl rfl ?_
      refine TO.addG g8 rfl rfl rfl rfl rfl ?_
      refine TO.callX TWS2a.c59 rfl rfl rfl rfl (fun wc hwc => w_sort_SearchInts (a0 := c0.First) (x1 := (a1 + 1)) wc (h_c0_First.mono hwc) e10) ?_
      rintro _ _ ⟨rfl, rfl⟩
      refine TO.subG g11 rfl rfl rfl rfl rfl ?_
      refine TO.assign rfl rfl rfl rfl ?_
      refine TO.assign rfl rfl rfl rfl ?_
      refine TO.done ?_
      refine X.seq_normal ?_
      refine T.trim (AllF.cons (t := 4) rfl (AllF.cons (t := 5) rfl AllF.nil)) ?_
      refine T.ret ?_
      obtain ⟨rfl, rfl⟩ := ret2 H
      exact X.ret2 rfl rfl rfl rfl (Res.tmp rfl) (Res.tmp rfl) Pick.nil ⟨rfl, rfl⟩
/-- acequia/acequialow.Ints -/
theorem w_acequialow_Ints {a0 : List Int} {b1 : List Int} {a0_b : Option Addr} {a0_n : Nat} {a0_c : Nat} {b1_b : Option Addr} {b1_n : Nat} {b1_c : Nat} (w : World) (h_a0 : RS w [] (intC .i64) 1 a0_b a0_n a0_c a0) (h_b1 : RS w [] (intC .i64) 1 b1_b b1_n b1_c b1) {r0 : Bool} (H : m_acequialow_Ints a0 b1 = some r0) : Fnc Try.prog 21 #[.slice a0_b a0_n a0_c, .slice b1_b b1_n b1_c] w [] (fun v N => v = .bool r0 ∧ N = []) := by
  unfold m_acequialow_Ints at H
  refine Fnc.enter (vs := [.slice a0_b a0_n a0_c, .slice b1_b b1_n b1_c]) Try.func21 rfl rfl (Inv.refl w) ?_
  refine T.seq ?_
  refine T.regionL (ll := [0]) rfl ?_
  refine TO.assign rfl rfl rfl rfl ?_
  refine TO.done ?_
  refine X.seq_normal ?_
  refine T.seq ?_
  refine T.seq ?_
  refine T.regionL (ll := [0, 1, 2, 3, 4]) rfl ?_
  refine TO.move rfl rfl rfl rfl ?_
  refine TO.lenX (xs := a0) h_a0.len rfl rfl rfl rfl rfl TWS2a.l30 ?_
  refine TO.move rfl rfl rfl rfl ?_
  refine TO.lenX (xs := b1) h_b1.len rfl rfl rfl rfl rfl TWS2a.l30 ?_
  refine TO.bin rfl rfl rfl rfl rfl rfl ?_
  refine TO.done ?_
  refine X.seq_normal ?_
  rcases ite_some H with ⟨g1, H⟩ | ⟨g1, H⟩
  ·
    refine T.condPT rfl g1 ?_
    refine T.seq ?_
    refine T.regionL (ll := [0]) rfl ?_
    refine TO.assign rfl rfl rfl rfl ?_
    refine TO.done ?_
    refine X.seq_normal ?_
    refine T.ret ?_
    refine X.then_ret ?_
    obtain rfl := ret1 H
    exact X.ret1 rfl rfl rfl rfl (Res.tmp rfl) Pick.nil ⟨rfl, rfl⟩
  ·
    refine T.condPF rfl g1 ?_
    refine T.skip ?_
    refine X.seq_normal ?_
    refine T.seq ?_
    refine T.seq ?_
    refine T.regionL (ll := [0, 1, 2]) rfl ?_
    refine TO.move rfl rfl rfl rfl ?_
    refine TO.lenX (xs := a0) h_a0.len rfl rfl rfl rfl rfl TWS2a.l30 ?_
    refine TO.move rfl rfl rfl rfl ?_
    refine TO.done ?_
    refine X.seq_normal ?_
    refine T.meetSE1 (fun (u8 : Unit) => m_acequialow_Ints_j2 = some r0) (fun (u8 : Unit) => []) (fun (u8 : Unit) => []) ?_ ?_
    ·
      refine T.block ?_
      obtain ⟨o_1, e_1, K_1⟩ := bd_some H
      refine T.loopE2 (fun (m_1 : Nat) (x2 : Int) => loopM (fun s => m_acequialow_Ints_s1 a0 b1 s) m_1 x2 = some o_1) (fun (m_1 : Nat) (x2 : Int) => [(0, .slice a0_b a0_n a0_c), (1, .slice b1_b b1_n b1_c), (12, .int .i64 (a0.length : Int)), (13, .int .i64 x2)]) (fun (m_1 : Nat) (x2 : Int) => []) (fun (m_1 : Nat) (x2 : Int) => m_1) FUEL 0 e_1 (AllF.cons rfl (AllF.cons rfl (AllF.cons rfl (AllF.cons rfl AllF.nil)))) Pick.nil ?_
      rintro m_1 x2 H
      obtain ⟨n_1, r_1, rfl, H, C_1⟩ := loopM_some H
      have H : m_acequialow_Ints_s1 a0 b1 x2 = some r_1 := H
      unfold m_acequialow_Ints_s1 at H
      refine T.seq ?_
      refine T.regionL (ll := [0]) rfl ?_
      refine TO.bin rfl rfl rfl rfl rfl rfl ?_
      refine TO.done ?_
      refine X.seq_normal ?_
      refine T.seq ?_
      rcases ite_some H with ⟨g3, H⟩ | ⟨g3, H⟩
      ·
        refine T.condPT rfl g3 ?_
        refine T.skip ?_
        refine X.seq_normal ?_
        refine T.seq ?_
        refine T.block ?_
        refine T.seq ?_
        refine T.regionL (ll := [0, 1]) rfl ?_
        refine TO.move rfl rfl rfl rfl ?_
        refine TO.assign rfl rfl rfl rfl ?_
        refine TO.done ?_
        refine X.seq_normal ?_
        refine T.seq ?_
        obtain ⟨g4, H⟩ := gd_some H
        obtain ⟨g5, H⟩ := gd_some H
        apply T.drawQT [(16, _), (17, _), (18, _), (19, _), (20, _), (21, _), (22, _), (23, _)]
        · exact mixed
        · kernel_rfl
        · kernel_rfl
        · exact rfl
        · exact rfl
        · refine ⟨?_, ?_, ?_, ?_, ?_, ?_, ?_, ?_, trivial⟩
          · intro Es
            refine TO.move rfl rfl rfl rfl ?_
            exact TO.done (X.ob rfl (Pick.refl _))
          · intro Es
            refine TO.move rfl rfl rfl rfl ?_
            exact TO.done (X.ob rfl (Pick.refl _))
          · intro Es
            refine TO.ixR h_a0 g4 rfl rfl rfl rfl rfl TWS2a.l30 TWS2a.n3 ?_
            exact TO.done (X.ob rfl (Pick.refl _))
          · intro Es
            refine TO.ldIR h_a0 g4 rfl rfl rfl rfl TWS2a.s3 ?_
            exact TO.done (X.ob rfl (Pick.refl _))
          · intro Es
            refine TO.move rfl rfl rfl rfl ?_
            exact TO.done (X.ob rfl (Pick.refl _))
          · intro Es
            refine TO.move rfl rfl rfl rfl ?_
            exact TO.done (X.ob rfl (Pick.refl _))
          · intro Es
            refine TO.ixR h_b1 g5 rfl rfl rfl rfl rfl TWS2a.l30 TWS2a.n3 ?_
            exact TO.done (X.ob rfl (Pick.refl _))
          · intro Es
            refine TO.ldIR h_b1 g5 rfl rfl rfl rfl TWS2a.s3 ?_
            exact TO.done (X.ob rfl (Pick.refl _))
        refine TO.bin rfl rfl rfl rfl rfl rfl ?_
        refine TO.done ?_
        refine X.seq_normal ?_
        refine T.trim (AllF.cons (t := 0) rfl (AllF.cons (t := 1) rfl (AllF.cons (t := 12) rfl (AllF.cons (t := 13) rfl (AllF.cons (t := 24) rfl AllF.nil))))) ?_
        rcases ite_some H with ⟨g6, H⟩ | ⟨g6, H⟩
        ·
          refine T.condPT rfl g6 ?_
          refine T.seq ?_
          refine T.regionL (ll := [0]) rfl ?_
          refine TO.assign rfl rfl rfl rfl ?_
          refine TO.done ?_
          refine X.seq_normal ?_
          refine T.ret ?_
          refine X.block_ret ?_
          refine X.then_ret ?_
          have H := loop_exitE H C_1 ▸ K_1
          refine X.then_ret ?_
          refine X.block_ret ?_
          refine X.then_ret ?_
          obtain rfl := ret1 H
          exact X.ret1 rfl rfl rfl rfl (Res.tmp rfl) Pick.nil ⟨rfl, rfl⟩
        ·
          refine T.condPF rfl g6 ?_
          refine T.skip ?_
          refine X.block_normal ?_
          refine X.seq_normal ?_
          obtain ⟨g7, H⟩ := gd_some H
          refine T.regionL (ll := [0, 1]) rfl ?_
          refine TO.addG g7 rfl rfl rfl rfl rfl ?_
          refine TO.move rfl rfl rfl rfl ?_
          refine TO.done ?_
          have H := loop_next H C_1
          exact X.againE2 n_1 (x2 + 1) H (Nat.lt_succ_self _) (AllF.cons rfl (AllF.cons rfl (AllF.cons rfl (AllF.cons rfl AllF.nil)))) Pick.nil
      ·
        refine T.condPF rfl g3 ?_
        refine T.exit ?_
        refine X.then_exit ?_
        have H := loop_exitE H C_1 ▸ K_1
        refine X.then_exit ?_
        refine X.block_here ?_
        exact X.metE1 () H AllF.nil Pick.nil
    · rintro u8 H
      unfold m_acequialow_Ints_j2 at H
      refine T.seq ?_
      refine T.regionL (ll := [0]) rfl ?_
      refine TO.assign rfl rfl rfl rfl ?_
      refine TO.done ?_
      refine X.seq_normal ?_
      refine T.ret ?_
      obtain rfl := ret1 H
      exact X.ret1 rfl rfl rfl rfl (Res.tmp rfl) Pick.nil ⟨rfl, rfl⟩
/-- acequia/acequialow.Longs -/
theorem w_acequialow_Longs {a0 : List Int} {b1 : List Int} {a0_b : Option Addr} {a0_n : Nat} {a0_c : Nat} {b1_b : Option Addr} {b1_n : Nat} {b1_c : Nat} (w : World) (h_a0 : RS w [] (intC .i64) 1 a0_b a0_n a0_c a0) (h_b1 : RS w [] (intC .i64) 1 b1_b b1_n b1_c b1) {r0 : Bool} (H : m_acequialow_Longs a0 b1 = some r0) : Fnc Try.prog 25 #[.slice a0_b a0_n a0_c, .slice b1_b b1_n b1_c] w [] (fun v N => v = .bool r0 ∧ N = []) := by
  unfold m_acequialow_Longs at H
  refine Fnc.enter (vs := [.slice a0_b a0_n a0_c, .slice b1_b b1_n b1_c]) Try.func25 rfl rfl (Inv.refl w) ?_
  refine T.seq ?_
  refine T.regionL (ll := [0]) rfl ?_
  refine TO.assign rfl rfl rfl rfl ?_
  refine TO.done ?_
  refine X.seq_normal ?_
  refine T.seq ?_
  refine T.seq ?_
  refine T.regionL (ll := [0, 1, 2, 3, 4]) rfl ?_
  refine TO.move rfl rfl rfl rfl ?_
  refine TO.lenX (xs := a0) h_a0.len rfl rfl rfl rfl rfl TWS2a.l25 ?_
  refine TO.move rfl rfl rfl rfl ?_
  refine TO.lenX (xs := b1) h_b1.len rfl rfl rfl rfl rfl TWS2a.l25 ?_
  refine TO.bin rfl rfl rfl rfl rfl rfl ?_
  refine TO.done ?_
  refine X.seq_normal ?_
  rcases ite_some H with ⟨g1, H⟩ | ⟨g1, H⟩
  ·
    refine T.condPT rfl g1 ?_
    refine T.seq ?_
    refine T.regionL (ll := [0]) rfl ?_
    refine TO.assign rfl rfl rfl rfl ?_
    refine TO.done ?_
    refine X.seq_normal ?_
    refine T.ret ?_
    refine X.then_ret ?_
    obtain rfl := ret1 H
    exact X.ret1 rfl rfl rfl rfl (Res.tmp rfl) Pick.nil ⟨rfl, rfl⟩
  ·
    refine T.condPF rfl g1 ?_
    refine T.skip ?_
    refine X.seq_normal ?_
    refine T.seq ?_
    refine T.seq ?_
    refine T.regionL (ll := [0, 1, 2]) rfl ?_
    refine TO.move rfl rfl rfl rfl ?_
    refine TO.lenX (xs := a0) h_a0.len rfl rfl rfl rfl rfl TWS2a.l25 ?_
    refine TO.move rfl rfl rfl rfl ?_
    refine TO.done ?_
    refine X.seq_normal ?_
    refine T.meetSE1 (fun (u8 : Unit) => m_acequialow_Longs_j2 = some r0) (fun (u8 : Unit) => []) (fun (u8 : Unit) => []) ?_ ?_
    ·
      refine T.block ?_
      obtain ⟨o_1, e_1, K_1⟩ := bd_some H
      refine T.loopE2 (fun (m_1 : Nat) (x2 : Int) => loopM (fun s => m_acequialow_Longs_s1 a0 b1 s) m_1 x2 = some o_1) (fun (m_1 : Nat) (x2 : Int) => [(0, .slice a0_b a0_n a0_c), (1, .slice b1_b b1_n b1_c), (12, .int .i64 (a0.length : Int)), (13, .int .i64 x2)]) (fun (m_1 : Nat) (x2 : Int) => []) (fun (m_1 : Nat) (x2 : Int) => m_1) FUEL 0 e_1 (AllF.cons rfl (AllF.cons rfl (AllF.cons rfl (AllF.cons rfl AllF.nil)))) Pick.nil ?_
      rintro m_1 x2 H
      obtain ⟨n_1, r_1, rfl, H, C_1⟩ := loopM_some H
      have H : m_acequialow_Longs_s1 a0 b1 x2 = some r_1 := H
      unfold m_acequialow_Longs_s1 at H
      refine T.seq ?_
      refine T.regionL (ll := [0]) rfl ?_
      refine TO.bin rfl rfl rfl rfl rfl rfl ?_
      refine TO.done ?_
      refine X.seq_normal ?_
      refine T.seq ?_
      rcases ite_some H with ⟨g3, H⟩ | ⟨g3, H⟩
      ·
        refine T.condPT rfl g3 ?_
        refine T.skip ?_
        refine X.seq_normal ?_
        refine T.seq ?_
        refine T.block ?_
        refine T.seq ?_
        refine T.regionL (ll := [0, 1]) rfl ?_
        refine TO.move rfl rfl rfl rfl ?_
        refine TO.assign rfl rfl rfl rfl ?_
        refine TO.done ?_
        refine X.seq_normal ?_
        refine T.seq ?_
        obtain ⟨g4, H⟩ := gd_some H
        obtain ⟨g5, H⟩ := gd_some H
        apply T.drawQT [(16, _), (17, _), (18, _), (19, _), (20, _), (21, _), (22, _), (23, _)]
        · exact mixed
        · kernel_rfl
        · kernel_rfl
        · exact rfl
        · exact rfl
        · refine ⟨?_, ?_, ?_, ?_, ?_, ?_, ?_, ?_, trivial⟩
          · intro Es
            refine TO.move rfl rfl rfl rfl ?_
            exact TO.done (X.ob rfl (Pick.refl _))
          · intro Es
            refine TO.move rfl rfl rfl rfl ?_
            exact TO.done (X.ob rfl (Pick.refl _))
          · intro Es
            refine TO.ixR h_a0 g4 rfl rfl rfl rfl rfl TWS2a.l25 TWS2a.n2 ?_
            exact TO.done (X.ob rfl (Pick.refl _))
          · intro Es
            refine TO.ldIR h_a0 g4 rfl rfl rfl rfl TWS2a.s2 ?_
            exact TO.done (X.ob rfl (Pick.refl _))
          · intro Es
            refine TO.move rfl rfl rfl rfl ?_
            exact TO.done (X.ob rfl (Pick.refl _))
          · intro Es
            refine TO.move rfl rfl rfl rfl ?_
            exact TO.done (X.ob rfl (Pick.refl _))
          · intro Es
            refine TO.ixR h_b1 g5 rfl rfl rfl rfl rfl TWS2a.l25 TWS2a.n2 ?_
            exact TO.done (X.ob rfl (Pick.refl _))
          · intro Es
            refine TO.ldIR h_b1 g5 rfl rfl rfl rfl TWS2a.s2 ?_
            exact TO.done (X.ob rfl (Pick.refl _))
        refine TO.bin rfl rfl rfl rfl rfl rfl ?_
        refine TO.done ?_
        refine X.seq_normal ?_
        refine T.trim (AllF.cons (t := 0) rfl (AllF.cons (t := 1) rfl (AllF.cons (t := 12) rfl (AllF.cons (t := 13) rfl (AllF.cons (t := 24) rfl AllF.nil))))) ?_
        rcases ite_some H with ⟨g6, H⟩ | ⟨g6, H⟩
        ·
          refine T.condPT rfl g6 ?_
          refine T.seq ?_
          refine T.regionL (ll := [0]) rfl ?_
          refine TO.assign rfl rfl rfl rfl ?_
          refine TO.done ?_
          refine X.seq_normal ?_
          refine T.ret ?_
          refine X.block_ret ?_
          refine X.then_ret ?_
          have H := loop_exitE H C_1 ▸ K_1
          refine X.then_ret ?_
          refine X.block_ret ?_
          refine X.then_ret ?_
          obtain rfl := ret1 H
          exact X.ret1 rfl rfl rfl rfl (Res.tmp rfl) Pick.nil ⟨rfl, rfl⟩
        ·
          refine T.condPF rfl g6 ?_
          refine T.skip ?_
          refine X.block_normal ?_
          refine X.seq_normal ?_
          obtain ⟨g7, H⟩ := gd_some H
          refine T.regionL (ll := [0, 1]) rfl ?_
          refine TO.addG g7 rfl rfl rfl rfl rfl ?_
          refine TO.move rfl rfl rfl rfl ?_
          refine TO.done ?_
          have H := loop_next H C_1
          exact X.againE2 n_1 (x2 + 1) H (Nat.lt_succ_self _) (AllF.cons rfl (AllF.cons rfl (AllF.cons rfl (AllF.cons rfl AllF.nil)))) Pick.nil
      ·
        refine T.condPF rfl g3 ?_
        refine T.exit ?_
        refine X.then_exit ?_
        have H := loop_exitE H C_1 ▸ K_1
        refine X.then_exit ?_
        refine X.block_here ?_
        exact X.metE1 () H AllF.nil Pick.nil
    · rintro u8 H
      unfold m_acequialow_Longs_j2 at H
      refine T.seq ?_
      refine T.regionL (ll := [0]) rfl ?_
      refine TO.assign rfl rfl rfl rfl ?_
      refine TO.done ?_
      refine X.seq_normal ?_
      refine T.ret ?_
      obtain rfl := ret1 H
      exact X.ret1 rfl rfl rfl rfl (Res.tmp rfl) Pick.nil ⟨rfl, rfl⟩
/-- acequia/acequialow.Bools -/
theorem w_acequialow_Bools {a0 : List Bool} {b1 : List Bool} {a0_b : Option Addr} {a0_n : Nat} {a0_c : Nat} {b1_b : Option Addr} {b1_n : Nat} {b1_c : Nat} (w : World) (h_a0 : RS w [] boolC 1 a0_b a0_n a0_c a0) (h_b1 : RS w [] boolC 1 b1_b b1_n b1_c b1) {r0 : Bool} (H : m_acequialow_Bools a0 b1 = some r0) : Fnc Try.prog 49 #[.slice a0_b a0_n a0_c, .slice b1_b b1_n b1_c] w [] (fun v N => v = .bool r0 ∧ N = []) := by
  unfold m_acequialow_Bools at H
  refine Fnc.enter (vs := [.slice a0_b a0_n a0_c, .slice b1_b b1_n b1_c]) Try.func49 rfl rfl (Inv.refl w) ?_
  refine T.seq ?_
  refine T.regionL (ll := [0]) rfl ?_
  refine TO.assign rfl rfl rfl rfl ?_
  refine TO.done ?_
  refine X.seq_normal ?_
  refine T.seq ?_
  refine T.seq ?_
  refine T.regionL (ll := [0, 1, 2, 3, 4]) rfl ?_
  refine TO.move rfl rfl rfl rfl ?_
  refine TO.lenX (xs := a0) h_a0.len rfl rfl rfl rfl rfl TWS2a.l31 ?_
  refine TO.move rfl rfl rfl rfl ?_
  refine TO.lenX (xs := b1) h_b1.len rfl rfl rfl rfl rfl TWS2a.l31 ?_
  refine TO.bin rfl rfl rfl rfl rfl rfl ?_
  refine TO.done ?_
  refine X.seq_normal ?_
  rcases ite_some H with ⟨g1, H⟩ | ⟨g1, H⟩
  ·
    refine T.condPT rfl g1 ?_
    refine T.seq ?_
    refine T.regionL (ll := [0]) rfl ?_
    refine TO.assign rfl rfl rfl rfl ?_
    refine TO.done ?_
    refine X.seq_normal ?_
    refine T.ret ?_
    refine X.then_ret ?_
    obtain rfl := ret1 H
    exact X.ret1 rfl rfl rfl rfl (Res.tmp rfl) Pick.nil ⟨rfl, rfl⟩
  ·
    refine T.condPF rfl g1 ?_
    refine T.skip ?_
    refine X.seq_normal ?_
    refine T.seq ?_
    refine T.seq ?_
    refine T.regionL (ll := [0, 1, 2]) rfl ?_
    refine TO.move rfl rfl rfl rfl ?_
    refine TO.lenX (xs := a0) h_a0.len rfl rfl rfl rfl rfl TWS2a.l31 ?_
    refine TO.move rfl rfl rfl rfl ?_
    refine TO.done ?_
    refine X.seq_normal ?_
    refine T.meetSE1 (fun (u8 : Unit) => m_acequialow_Bools_j2 = some r0) (fun (u8 : Unit) => []) (fun (u8 : Unit) => []) ?_ ?_
    ·
      refine T.block ?_
      obtain ⟨o_1, e_1, K_1⟩ := bd_some H
      refine T.loopE2 (fun (m_1 : Nat) (x2 : Int) => loopM (fun s => m_acequialow_Bools_s1 a0 b1 s) m_1 x2 = some o_1) (fun (m_1 : Nat) (x2 : Int) => [(0, .slice a0_b a0_n a0_c), (1, .slice b1_b b1_n b1_c), (12, .int .i64 (a0.length : Int)), (13, .int .i64 x2)]) (fun (m_1 : Nat) (x2 : Int) => []) (fun (m_1 : Nat) (x2 : Int) => m_1) FUEL 0 e_1 (AllF.cons rfl (AllF.cons rfl (AllF.cons rfl (AllF.cons rfl AllF.nil)))) Pick.nil ?_
      rintro m_1 x2 H
      obtain ⟨n_1, r_1, rfl, H, C_1⟩ := loopM_some H
      have H : m_acequialow_Bools_s1 a0 b1 x2 = some r_1 := H
      unfold m_acequialow_Bools_s1 at H
      refine T.seq ?_
      refine T.regionL (ll := [0]) rfl ?_
      refine TO.bin rfl rfl rfl rfl rfl rfl ?_
      refine TO.done ?_
      refine X.seq_normal ?_
      refine T.seq ?_
      rcases ite_some H with ⟨g3, H⟩ | ⟨g3, H⟩
      ·
        refine T.condPT rfl g3 ?_
        refine T.skip ?_
        refine X.seq_normal ?_
        refine T.seq ?_
        refine T.block ?_
        refine T.seq ?_
        refine T.regionL (ll := [0, 1]) rfl ?_
        refine TO.move rfl rfl rfl rfl ?_
        refine TO.assign rfl rfl rfl rfl ?_
        refine TO.done ?_
        refine X.seq_normal ?_
        refine T.seq ?_
        obtain ⟨g4, H⟩ := gd_some H
        obtain ⟨g5, H⟩ := gd_some H
        apply T.drawQT [(16, _), (17, _), (18, _), (19, _), (20, _), (21, _), (22, _), (23, _)]
        · exact mixed
        · kernel_rfl
        · kernel_rfl
        · exact rfl
        · exact rfl
        · refine ⟨?_, ?_, ?_, ?_, ?_, ?_, ?_, ?_, trivial⟩
          · intro Es
            refine TO.move rfl rfl rfl rfl ?_
            exact TO.done (X.ob rfl (Pick.refl _))
          · intro Es
            refine TO.move rfl rfl rfl rfl ?_
            exact TO.done (X.ob rfl (Pick.refl _))
          · intro Es
            refine TO.ixR h_a0 g4 rfl rfl rfl rfl rfl TWS2a.l31 TWS2a.n4 ?_
            exact TO.done (X.ob rfl (Pick.refl _))
          · intro Es
            refine TO.ldBR h_a0 g4 rfl rfl rfl rfl TWS2a.s4 ?_
            exact TO.done (X.ob rfl (Pick.refl _))
          · intro Es
            refine TO.move rfl rfl rfl rfl ?_
            exact TO.done (X.ob rfl (Pick.refl _))
          · intro Es
            refine TO.move rfl rfl rfl rfl ?_
            exact TO.done (X.ob rfl (Pick.refl _))
          · intro Es
            refine TO.ixR h_b1 g5 rfl rfl rfl rfl rfl TWS2a.l31 TWS2a.n4 ?_
            exact TO.done (X.ob rfl (Pick.refl _))
          · intro Es
            refine TO.ldBR h_b1 g5 rfl rfl rfl rfl TWS2a.s4 ?_
            exact TO.done (X.ob rfl (Pick.refl _))
        refine TO.neb rfl rfl rfl rfl rfl TWS2a.u4 ?_
        refine TO.done ?_
        refine X.seq_normal ?_
        refine T.trim (AllF.cons (t := 0) rfl (AllF.cons (t := 1) rfl (AllF.cons (t := 12) rfl (AllF.cons (t := 13) rfl (AllF.cons (t := 24) rfl AllF.nil))))) ?_
        rcases ite_some H with ⟨g6, H⟩ | ⟨g6, H⟩
        ·
          refine T.condT rfl g6 ?_
          refine T.seq ?_
          refine T.regionL (ll := [0]) rfl ?_
          refine TO.assign rfl rfl rfl rfl ?_
          refine TO.done ?_
          refine X.seq_normal ?_
          refine T.ret ?_
          refine X.block_ret ?_
          refine X.then_ret ?_
          have H := loop_exitE H C_1 ▸ K_1
          refine X.then_ret ?_
          refine X.block_ret ?_
          refine X.then_ret ?_
          obtain rfl := ret1 H
          exact X.ret1 rfl rfl rfl rfl (Res.tmp rfl) Pick.nil ⟨rfl, rfl⟩
        ·
          refine T.condF rfl (Bool.eq_false_iff.2 g6) ?_
          refine T.skip ?_
          refine X.block_normal ?_
          refine X.seq_normal ?_
          obtain ⟨g7, H⟩ := gd_some H
          refine T.regionL (ll := [0, 1]) rfl ?_
          refine TO.addG g7 rfl rfl rfl rfl rfl ?_
          refine TO.move rfl rfl rfl rfl ?_
          refine TO.done ?_
          have H := loop_next H C_1
          exact X.againE2 n_1 (x2 + 1) H (Nat.lt_succ_self _) (AllF.cons rfl (AllF.cons rfl (AllF.cons rfl (AllF.cons rfl AllF.nil)))) Pick.nil
      ·
        refine T.condPF rfl g3 ?_
        refine T.exit ?_
        refine X.then_exit ?_
        have H := loop_exitE H C_1 ▸ K_1
        refine X.then_exit ?_
        refine X.block_here ?_
        exact X.metE1 () H AllF.nil Pick.nil
    · rintro u8 H
      unfold m_acequialow_Bools_j2 at H
      refine T.seq ?_
      refine T.regionL (ll := [0]) rfl ?_
      refine TO.assign rfl rfl rfl rfl ?_
      refine TO.done ?_
      refine X.seq_normal ?_
      refine T.ret ?_
      obtain rfl := ret1 H
      exact X.ret1 rfl rfl rfl rfl (Res.tmp rfl) Pick.nil ⟨rfl, rfl⟩
/-- acequia/acequialaw01.Four -/
theorem w_acequialaw01_Four (w : World) {r0 : Net} (H : m_acequialaw01_Four = some r0) : Fnc Try.prog 56 #[] w [] (fun v N => ∃ (ob_0 : Option Nat) (n_0 : Nat) (c_0 : Nat) (j_0 : List Value), v = .agg #[.int .i64 r0.N, .int .i64 r0.S, .int .i64 r0.T, .slice (sb ob_0) n_0 c_0] ∧ N = [(ob_0, .cells (arr arcC r0.Arcs j_0).toArray 28 (0, 0))] ∧ r0.Arcs.length = n_0 ∧ n_0 ≤ c_0 ∧ j_0.length = (c_0 - n_0) * 3 ∧ (ob_0 = none → c_0 = 0)) := by
  unfold m_acequialaw01_Four at H
  refine Fnc.enter (vs := []) Try.func56 rfl rfl (Inv.refl w) ?_
  refine T.seq ?_
  refine T.regionL (ll := [0]) rfl ?_
  refine TO.allocA rfl rfl rfl TWS2a.z24 ?_; intro b1
  refine TO.done ?_
  refine X.seq_normal ?_
  refine T.seq ?_
  refine T.regionL (ll := [0, 1, 2, 3, 4, 5, 6, 7]) rfl ?_
  refine TO.buildS (t := 28) [.int .i64 0, .int .i64 0, .int .i64 0] [0, 1, 2] rfl rfl rfl rfl (by simp only [setAll, setCells, Value.cells, List.toList_toArray, List.getD_cons_zero, List.getD_cons_succ, List.set_cons_zero, List.set_cons_succ]; rfl) (by kernel_rfl) ?_
  refine TO.buildS (t := 28) [.int .i64 0, .int .i64 0, .int .i64 0] [0, 1, 2] rfl rfl rfl rfl (by simp only [setAll, setCells, Value.cells, List.toList_toArray, List.getD_cons_zero, List.getD_cons_succ, List.set_cons_zero, List.set_cons_succ]; rfl) (by kernel_rfl) ?_
  refine TO.buildS (t := 28) [.int .i64 0, .int .i64 0, .int .i64 0] [0, 1, 2] rfl rfl rfl rfl (by simp only [setAll, setCells, Value.cells, List.toList_toArray, List.getD_cons_zero, List.getD_cons_succ, List.set_cons_zero, List.set_cons_succ]; rfl) (by kernel_rfl) ?_
  refine TO.buildS (t := 28) [.int .i64 0, .int .i64 0, .int .i64 0] [0, 1, 2] rfl rfl rfl rfl (by simp only [setAll, setCells, Value.cells, List.toList_toArray, List.getD_cons_zero, List.getD_cons_succ, List.set_cons_zero, List.set_cons_succ]; rfl) (by kernel_rfl) ?_
  refine TO.buildS (t := 28) [.int .i64 0, .int .i64 0, .int .i64 0] [0, 1, 2] rfl rfl rfl rfl (by simp only [setAll, setCells, Value.cells, List.toList_toArray, List.getD_cons_zero, List.getD_cons_succ, List.set_cons_zero, List.set_cons_succ]; rfl) (by kernel_rfl) ?_
  refine TO.buildSliceS [.int .i64 0, .int .i64 0, .int .i64 0, .int .i64 0, .int .i64 0, .int .i64 0, .int .i64 0, .int .i64 0, .int .i64 0, .int .i64 0, .int .i64 0, .int .i64 0, .int .i64 0, .int .i64 0, .int .i64 0] [0, 3, 6, 9, 12] rfl rfl rfl rfl TWS2a.l22 TWS2a.n28 TWS2a.z28 rfl rfl (by simp only [setAll, setCells, Value.cells, List.toList_toArray, List.getD_cons_zero, List.getD_cons_succ, List.set_cons_zero, List.set_cons_succ]; rfl) (by kernel_rfl) ?_; intro b3
  refine TO.buildS (t := 24) [.int .i64 0, .int .i64 0, .int .i64 0, .slice none 0 0] [0, 1, 2, 3] rfl rfl rfl rfl (by simp only [setAll, setCells, Value.cells, List.toList_toArray, List.getD_cons_zero, List.getD_cons_succ, List.set_cons_zero, List.set_cons_succ]; rfl) (by kernel_rfl) ?_
  refine TO.storeA rfl rfl rfl rfl (Take.tail (Take.head _ _)) TWS2a.n24 rfl rfl rfl ?_
  refine TO.done ?_
  refine X.seq_normal ?_
  refine T.ret ?_
  obtain rfl := ret1 H
  exact X.ret1 rfl rfl rfl rfl (Res.cellA rfl TWS2a.a24 (List.Mem.head _) rfl) (Pick.cons (Take.tail (Take.head _ _)) Pick.nil) ⟨(some b3), 5, 5, ([]), rfl, rfl, rfl, (Nat.le_refl _), (zeroJ _ _), someZ⟩
/-- acequia/acequialaw02.awake -/
theorem w_acequialaw02_awake (w : World) {r0 : Bool} (H : m_acequialaw02_awake = some r0) : Fnc Try.prog 23 #[] w [] (fun v N => v = .bool r0 ∧ N = []) := by
  unfold m_acequialaw02_awake at H
  refine Fnc.enter (vs := []) Try.func23 rfl rfl (Inv.refl w) ?_
  refine T.seq ?_
  refine T.regionL (ll := [0]) rfl ?_
  refine TO.assign rfl rfl rfl rfl ?_
  refine TO.done ?_
  refine X.seq_normal ?_
  refine T.seq ?_
  obtain ⟨r1, e2, H⟩ := bd_some H
  obtain ⟨⟨r12, r13⟩, e14, H⟩ := bd_some H
  refine T.regionL (ll := [0, 1, 2, 3, 4, 5, 6, 7]) rfl ?_
  refine TO.callX TWS2a.c56 rfl rfl rfl rfl (fun wc hwc => w_acequialaw01_Four  wc  e2) ?_
  rintro _ _ ⟨ob3, n4, c5, j6, rfl, rfl, hn7, hc8, hj9, hz10⟩
  refine TO.callX TWS2a.c19 rfl rfl rfl rfl (fun wc hwc => w_csr_Make (n0 := r1) wc (hwc.rs (f := arcC) (s := 3) (xs := r1.Arcs) (j := j6) (fun _ => rfl) (List.Mem.head _) hn7 hc8 hz10) e14) ?_
  rintro _ _ ⟨ob15, n16, c17, j18, ob19, n20, c21, j22, ob23, n24, c25, j26, ob27, n28, c29, j30, ob31, n32, c33, j34, ob35, n36, c37, j38, rfl, rfl, hn39, hc40, hj41, hz42, hn43, hc44, hj45, hz46, hn47, hc48, hj49, hz50, hn51, hc52, hj53, hz54, hn55, hc56, hj57, hz58, hn59, hc60, hj61, hz62⟩
  refine TO.move rfl rfl rfl rfl ?_
  refine TO.extract rfl rfl rfl rfl rfl ?_
  refine TO.extract rfl rfl rfl rfl rfl ?_
  refine TO.allocA rfl rfl rfl TWS2a.z33 ?_; intro b69
  refine TO.storeA rfl rfl rfl rfl (Take.head _ _) TWS2a.n33 rfl rfl rfl ?_
  refine TO.assign rfl rfl rfl rfl ?_
  refine TO.done ?_
  refine X.seq_normal ?_
  refine T.seq ?_
  refine T.seq ?_
  rcases ite_some H with ⟨g71, H⟩ | ⟨g71, H⟩
  ·
    refine T.regionL (ll := [0, 1, 2, 3, 4, 5, 6, 7, 8, 9, 10, 11, 12, 13, 14, 15, 16, 17, 18, 19, 20, 21, 22, 23, 24, 25, 26, 27, 28, 29, 30, 31, 32, 33, 34, 35, 36]) rfl ?_
    refine TO.move rfl rfl rfl rfl ?_
    refine TO.bin rfl rfl rfl rfl rfl rfl ?_
    refine TO.move rfl rfl rfl rfl ?_
    refine TO.decB (t := 12) (b' := true) rfl (decide_eq_true g71) ?_
    refine TO.shut rfl rfl rfl rfl ?_
    refine TO.shut rfl rfl rfl rfl ?_
    refine TO.shut rfl rfl rfl rfl ?_
    refine TO.pickT rfl rfl rfl rfl rfl ?_
    refine TO.move rfl rfl rfl rfl ?_
    refine TO.shut rfl rfl rfl rfl ?_
    refine TO.shut rfl rfl rfl rfl ?_
    refine TO.shut rfl rfl rfl rfl ?_
    refine TO.shut rfl rfl rfl rfl ?_
    refine TO.shut rfl rfl rfl rfl ?_
    refine TO.pickT rfl rfl rfl rfl rfl ?_
    refine TO.move rfl rfl rfl rfl ?_
    refine TO.shut rfl rfl rfl rfl ?_
    refine TO.shut rfl rfl rfl rfl ?_
    refine TO.shut rfl rfl rfl rfl ?_
    refine TO.shut rfl rfl rfl rfl ?_
    refine TO.shut rfl rfl rfl rfl ?_
    refine TO.shut rfl rfl rfl rfl ?_
    refine TO.pickT rfl rfl rfl rfl rfl ?_
    refine TO.move rfl rfl rfl rfl ?_
    refine TO.shut rfl rfl rfl rfl ?_
    refine TO.shut rfl rfl rfl rfl ?_
    refine TO.shut rfl rfl rfl rfl ?_
    refine TO.shut rfl rfl rfl rfl ?_
    refine TO.shut rfl rfl rfl rfl ?_
    refine TO.shut rfl rfl rfl rfl ?_
    refine TO.pickT rfl rfl rfl rfl rfl ?_
    refine TO.move rfl rfl rfl rfl ?_
    refine TO.shut rfl rfl rfl rfl ?_
    refine TO.shut rfl rfl rfl rfl ?_
    refine TO.shut rfl rfl rfl rfl ?_
    refine TO.shut rfl rfl rfl rfl ?_
    refine TO.shut rfl rfl rfl rfl ?_
    refine TO.pickT rfl rfl rfl rfl rfl ?_
    refine TO.done ?_
    refine X.seq_normal ?_
    refine T.trim (AllF.cons (t := 1) rfl (AllF.cons (t := 46) rfl AllF.nil)) ?_
    refine T.condT rfl rfl ?_
    refine T.seq ?_
    refine T.regionL (ll := [0]) rfl ?_
    refine TO.assign rfl rfl rfl rfl ?_
    refine TO.done ?_
    refine X.seq_normal ?_
    refine T.ret ?_
    refine X.then_ret ?_
    obtain rfl := ret1 H
    exact X.ret1 rfl rfl rfl rfl (Res.tmp rfl) Pick.nil ⟨rfl, rfl⟩
  ·
    obtain ⟨r72, e73, H⟩ := bd_some H
    rcases ite_some H with ⟨g74, H⟩ | ⟨g74, H⟩
    ·
      refine T.regionL (ll := [0, 1, 2, 3, 4, 5, 6, 7, 8, 9, 10, 11, 12, 13, 14, 15, 16, 17, 18, 19, 20, 21, 22, 23, 24, 25, 26, 27, 28, 29, 30, 31, 32, 33, 34, 35, 36]) rfl ?_
      refine TO.move rfl rfl rfl rfl ?_
      refine TO.bin rfl rfl rfl rfl rfl rfl ?_
      refine TO.move rfl rfl rfl rfl ?_
      refine TO.decB (t := 12) (b' := false) rfl (decide_eq_false g71) ?_
      refine TO.loadA rfl rfl rfl rfl TWS2a.a33 (List.Mem.head _) rfl ?_
      refine TO.callX TWS2a.c22 rfl rfl rfl rfl (fun wc hwc => w_csr_Len (c0 := r12) wc (hwc.rs (f := (intC .i64)) (s := 1) (xs := r12.First) (j := j18) (fun _ => rfl) (List.Mem.tail _ (List.Mem.head _)) hn39 hc40 hz42) (hwc.rs (f := (intC .i64)) (s := 1) (xs := r12.Head) (j := j22) (fun _ => rfl) (List.Mem.tail _ (List.Mem.tail _ (List.Mem.head _))) hn43 hc44 hz46) (hwc.rs (f := (intC .i64)) (s := 1) (xs := r12.Rev) (j := j26) (fun _ => rfl) (List.Mem.tail _ (List.Mem.tail _ (List.Mem.tail _ (List.Mem.head _)))) hn47 hc48 hz50) (hwc.rs (f := (intC .i64)) (s := 1) (xs := r12.Cap) (j := j30) (fun _ => rfl) (List.Mem.tail _ (List.Mem.tail _ (List.Mem.tail _ (List.Mem.tail _ (List.Mem.head _))))) hn51 hc52 hz54) (hwc.rs (f := (intC .i64)) (s := 1) (xs := r12.Arc) (j := j34) (fun _ => rfl) (List.Mem.tail _ (List.Mem.tail _ (List.Mem.tail _ (List.Mem.tail _ (List.Mem.tail _ (List.Mem.head _)))))) hn55 hc56 hz58) (hwc.rs (f := boolC) (s := 1) (xs := r12.Back) (j := j38) (fun _ => rfl) (List.Mem.tail _ (List.Mem.tail _ (List.Mem.tail _ (List.Mem.tail _ (List.Mem.tail _ (List.Mem.tail _ (List.Mem.head _))))))) hn59 hc60 hz62) e73) ?_
      rintro _ _ ⟨rfl, rfl⟩
      refine TO.bin rfl rfl rfl rfl rfl rfl ?_
      refine TO.pickF rfl rfl rfl rfl rfl ?_
      refine TO.move rfl rfl rfl rfl ?_
      refine TO.decB (t := 17) (b' := true) rfl (decide_eq_true g74) ?_
      refine TO.shut rfl rfl rfl rfl ?_
      refine TO.shut rfl rfl rfl rfl ?_
      refine TO.shut rfl rfl rfl rfl ?_
      refine TO.shut rfl rfl rfl rfl ?_
      refine TO.shut rfl rfl rfl rfl ?_
      refine TO.pickT rfl rfl rfl rfl rfl ?_
      refine TO.move rfl rfl rfl rfl ?_
      refine TO.shut rfl rfl rfl rfl ?_
      refine TO.shut rfl rfl rfl rfl ?_
      refine TO.shut rfl rfl rfl rfl ?_
      refine TO.shut rfl rfl rfl rfl ?_
      refine TO.shut rfl rfl rfl rfl ?_
      refine TO.shut rfl rfl rfl rfl ?_
      refine TO.pickT rfl rfl rfl rfl rfl ?_
      refine TO.move rfl rfl rfl rfl ?_
      refine TO.shut rfl rfl rfl rfl ?_
      refine TO.shut rfl rfl rfl rfl ?_
      refine TO.shut rfl rfl rfl rfl ?_
      refine TO.shut rfl rfl rfl rfl ?_
      refine TO.shut rfl rfl rfl rfl ?_
      refine TO.shut rfl rfl rfl rfl ?_
      refine TO.pickT rfl rfl rfl rfl rfl ?_
      refine TO.move rfl rfl rfl rfl ?_
      refine TO.shut rfl rfl rfl rfl ?_
      refine TO.shut rfl rfl rfl rfl ?_
      refine TO.shut rfl rfl rfl rfl ?_
      refine TO.shut rfl rfl rfl rfl ?_
      refine TO.shut rfl rfl rfl rfl ?_
      refine TO.pickT rfl rfl rfl rfl rfl ?_
      refine TO.done ?_
      refine X.seq_normal ?_
      refine T.trim (AllF.cons (t := 1) rfl (AllF.cons (t := 46) rfl AllF.nil)) ?_
      refine T.condT rfl rfl ?_
      refine T.seq ?_
      refine T.regionL (ll := [0]) rfl ?_
      refine TO.assign rfl rfl rfl rfl ?_
      refine TO.done ?_
      refine X.seq_normal ?_
      refine T.ret ?_
      refine X.then_ret ?_
      obtain rfl := ret1 H
      exact X.ret1 rfl rfl rfl rfl (Res.tmp rfl) Pick.nil ⟨rfl, rfl⟩
    ·
      obtain ⟨r77, e78, H⟩ := bd_some H
      rcases ite_some H with ⟨g79, H⟩ | ⟨g79, H⟩
      ·
        refine T.regionL (ll := [0, 1, 2, 3, 4, 5, 6, 7, 8, 9, 10, 11, 12, 13, 14, 15, 16, 17, 18, 19, 20, 21, 22, 23, 24, 25, 26, 27, 28, 29, 30, 31, 32, 33, 34, 35, 36]) rfl ?_
        refine TO.move rfl rfl rfl rfl ?_
        refine TO.bin rfl rfl rfl rfl rfl rfl ?_
        refine TO.move rfl rfl rfl rfl ?_
        refine TO.decB (t := 12) (b' := false) rfl (decide_eq_false g71) ?_
        refine TO.loadA rfl rfl rfl rfl TWS2a.a33 (List.Mem.head _) rfl ?_
        refine TO.callX TWS2a.c22 rfl rfl rfl rfl (fun wc hwc => w_csr_Len (c0 := r12) wc (hwc.rs (f := (intC .i64)) (s := 1) (xs := r12.First) (j := j18) (fun _ => rfl) (List.Mem.tail _ (List.Mem.head _)) hn39 hc40 hz42) (hwc.rs (f := (intC .i64)) (s := 1) (xs := r12.Head) (j := j22) (fun _ => rfl) (List.Mem.tail _ (List.Mem.tail _ (List.Mem.head _))) hn43 hc44 hz46) (hwc.rs (f := (intC .i64)) (s := 1) (xs := r12.Rev) (j := j26) (fun _ => rfl) (List.Mem.tail _ (List.Mem.tail _ (List.Mem.tail _ (List.Mem.head _)))) hn47 hc48 hz50) (hwc.rs (f := (intC .i64)) (s := 1) (xs := r12.Cap) (j := j30) (fun _ => rfl) (List.Mem.tail _ (List.Mem.tail _ (List.Mem.tail _ (List.Mem.tail _ (List.Mem.head _))))) hn51 hc52 hz54) (hwc.rs (f := (intC .i64)) (s := 1) (xs := r12.Arc) (j := j34) (fun _ => rfl) (List.Mem.tail _ (List.Mem.tail _ (List.Mem.tail _ (List.Mem.tail _ (List.Mem.tail _ (List.Mem.head _)))))) hn55 hc56 hz58) (hwc.rs (f := boolC) (s := 1) (xs := r12.Back) (j := j38) (fun _ => rfl) (List.Mem.tail _ (List.Mem.tail _ (List.Mem.tail _ (List.Mem.tail _ (List.Mem.tail _ (List.Mem.tail _ (List.Mem.head _))))))) hn59 hc60 hz62) e73) ?_
        rintro _ _ ⟨rfl, rfl⟩
        refine TO.bin rfl rfl rfl rfl rfl rfl ?_
        refine TO.pickF rfl rfl rfl rfl rfl ?_
        refine TO.move rfl rfl rfl rfl ?_
        refine TO.decB (t := 17) (b' := false) rfl (decide_eq_false g74) ?_
        refine TO.fieldAddr0 rfl rfl rfl rfl TWS2a.f33_3 ?_
        refine TO.load1 rfl rfl rfl rfl TWS2a.s30 (List.Mem.head _) rfl ?_
        refine TO.buildSliceS [.int .i64 0, .int .i64 0, .int .i64 0, .int .i64 0, .int .i64 0] [0, 1, 2, 3, 4] rfl rfl rfl rfl TWS2a.l30 TWS2a.n3 TWS2a.z3 rfl rfl (by simp only [setAll, setCells, Value.cells, List.toList_toArray, List.getD_cons_zero, List.getD_cons_succ, List.set_cons_zero, List.set_cons_succ]; rfl) (by kernel_rfl) ?_; intro b75
        refine TO.callX TWS2a.c21 rfl rfl rfl rfl (fun wc hwc => w_acequialow_Ints (a0 := r12.First) (b1 := [0, 2, 5, 8, 10]) wc (hwc.rs (f := (intC .i64)) (s := 1) (xs := r12.First) (j := j18) (fun _ => rfl) (List.Mem.tail _ (List.Mem.tail _ (List.Mem.head _))) hn39 hc40 hz42) (hwc.rs (f := (intC .i64)) (s := 1) (xs := [0, 2, 5, 8, 10]) (j := ([])) (fun _ => rfl) (List.Mem.head _) rfl (Nat.le_refl _) someZ) e78) ?_
        rintro _ _ ⟨rfl, rfl⟩
        refine TO.not rfl rfl rfl rfl ?_
        refine TO.pickF rfl rfl rfl rfl rfl ?_
        refine TO.move rfl rfl rfl rfl ?_
        refine TO.decB (t := 24) (b' := true) rfl g79 ?_
        refine TO.shut rfl rfl rfl rfl ?_
        refine TO.shut rfl rfl rfl rfl ?_
        refine TO.shut rfl rfl rfl rfl ?_
        refine TO.shut rfl rfl rfl rfl ?_
        refine TO.shut rfl rfl rfl rfl ?_
        refine TO.shut rfl rfl rfl rfl ?_
        refine TO.pickT rfl rfl rfl rfl rfl ?_
        refine TO.move rfl rfl rfl rfl ?_
        refine TO.shut rfl rfl rfl rfl ?_
        refine TO.shut rfl rfl rfl rfl ?_
        refine TO.shut rfl rfl rfl rfl ?_
        refine TO.shut rfl rfl rfl rfl ?_
        refine TO.shut rfl rfl rfl rfl ?_
        refine TO.shut rfl rfl rfl rfl ?_
        refine TO.pickT rfl rfl rfl rfl rfl ?_
        refine TO.move rfl rfl rfl rfl ?_
        refine TO.shut rfl rfl rfl rfl ?_
        refine TO.shut rfl rfl rfl rfl ?_
        refine TO.shut rfl rfl rfl rfl ?_
        refine TO.shut rfl rfl rfl rfl ?_
        refine TO.shut rfl rfl rfl rfl ?_
        refine TO.pickT rfl rfl rfl rfl rfl ?_
        refine TO.done ?_
        refine X.seq_normal ?_
        refine T.trim (AllF.cons (t := 1) rfl (AllF.cons (t := 46) rfl AllF.nil)) ?_
        refine T.condT rfl rfl ?_
        refine T.seq ?_
        refine T.regionL (ll := [0]) rfl ?_
        refine TO.assign rfl rfl rfl rfl ?_
        refine TO.done ?_
        refine X.seq_normal ?_
        refine T.ret ?_
        refine X.then_ret ?_
        obtain rfl := ret1 H
        exact X.ret1 rfl rfl rfl rfl (Res.tmp rfl) Pick.nil ⟨rfl, rfl⟩
      ·
        obtain ⟨g80, H⟩ := gd_some H
        obtain ⟨r83, e84, H⟩ := bd_some H
        rcases ite_some H with ⟨g85, H⟩ | ⟨g85, H⟩
        ·
          refine T.regionL (ll := [0, 1, 2, 3, 4, 5, 6, 7, 8, 9, 10, 11, 12, 13, 14, 15, 16, 17, 18, 19, 20, 21, 22, 23, 24, 25, 26, 27, 28, 29, 30, 31, 32, 33, 34, 35, 36]) rfl ?_
          refine TO.move rfl rfl rfl rfl ?_
          refine TO.bin rfl rfl rfl rfl rfl rfl ?_
          refine TO.move rfl rfl rfl rfl ?_
          refine TO.decB (t := 12) (b' := false) rfl (decide_eq_false g71) ?_
          refine TO.loadA rfl rfl rfl rfl TWS2a.a33 (List.Mem.head _) rfl ?_
          refine TO.callX TWS2a.c22 rfl rfl rfl rfl (fun wc hwc => w_csr_Len (c0 := r12) wc (hwc.rs (f := (intC .i64)) (s := 1) (xs := r12.First) (j := j18) (fun _ => rfl) (List.Mem.tail _ (List.Mem.head _)) hn39 hc40 hz42) (hwc.rs (f := (intC .i64)) (s := 1) (xs := r12.Head) (j := j22) (fun _ => rfl) (List.Mem.tail _ (List.Mem.tail _ (List.Mem.head _))) hn43 hc44 hz46) (hwc.rs (f := (intC .i64)) (s := 1) (xs := r12.Rev) (j := j26) (fun _ => rfl) (List.Mem.tail _ (List.Mem.tail _ (List.Mem.tail _ (List.Mem.head _)))) hn47 hc48 hz50) (hwc.rs (f := (intC .i64)) (s := 1) (xs := r12.Cap) (j := j30) (fun _ => rfl) (List.Mem.tail _ (List.Mem.tail _ (List.Mem.tail _ (List.Mem.tail _ (List.Mem.head _))))) hn51 hc52 hz54) (hwc.rs (f := (intC .i64)) (s := 1) (xs := r12.Arc) (j := j34) (fun _ => rfl) (List.Mem.tail _ (List.Mem.tail _ (List.Mem.tail _ (List.Mem.tail _ (List.Mem.tail _ (List.Mem.head _)))))) hn55 hc56 hz58) (hwc.rs (f := boolC) (s := 1) (xs := r12.Back) (j := j38) (fun _ => rfl) (List.Mem.tail _ (List.Mem.tail _ (List.Mem.tail _ (List.Mem.tail _ (List.Mem.tail _ (List.Mem.tail _ (List.Mem.head _))))))) hn59 hc60 hz62) e73) ?_
          rintro _ _ ⟨rfl, rfl⟩
          refine TO.bin rfl rfl rfl rfl rfl rfl ?_
          refine TO.pickF rfl rfl rfl rfl rfl ?_
          refine TO.move rfl rfl rfl rfl ?_
          refine TO.decB (t := 17) (b' := false) rfl (decide_eq_false g74) ?_
          refine TO.fieldAddr0 rfl rfl rfl rfl TWS2a.f33_3 ?_
          refine TO.load1 rfl rfl rfl rfl TWS2a.s30 (List.Mem.head _) rfl ?_
          refine TO.buildSliceS [.int .i64 0, .int .i64 0, .int .i64 0, .int .i64 0, .int .i64 0] [0, 1, 2, 3, 4] rfl rfl rfl rfl TWS2a.l30 TWS2a.n3 TWS2a.z3 rfl rfl (by simp only [setAll, setCells, Value.cells, List.toList_toArray, List.getD_cons_zero, List.getD_cons_succ, List.set_cons_zero, List.set_cons_succ]; rfl) (by kernel_rfl) ?_; intro b75
          refine TO.callX TWS2a.c21 rfl rfl rfl rfl (fun wc hwc => w_acequialow_Ints (a0 := r12.First) (b1 := [0, 2, 5, 8, 10]) wc (hwc.rs (f := (intC .i64)) (s := 1) (xs := r12.First) (j := j18) (fun _ => rfl) (List.Mem.tail _ (List.Mem.tail _ (List.Mem.head _))) hn39 hc40 hz42) (hwc.rs (f := (intC .i64)) (s := 1) (xs := [0, 2, 5, 8, 10]) (j := ([])) (fun _ => rfl) (List.Mem.head _) rfl (Nat.le_refl _) someZ) e78) ?_
          rintro _ _ ⟨rfl, rfl⟩
          refine TO.not rfl rfl rfl rfl ?_
          refine TO.pickF rfl rfl rfl rfl rfl ?_
          refine TO.move rfl rfl rfl rfl ?_
          refine TO.decB (t := 24) (b' := false) rfl (Bool.eq_false_iff.2 g79) ?_
          refine TO.fieldAddr0 rfl rfl rfl rfl TWS2a.f33_4 ?_
          refine TO.load1 rfl rfl rfl rfl TWS2a.s30 (List.Mem.tail _ (List.Mem.head _)) rfl ?_
          refine TO.slH (xs := r12.Head) hn43 hc44 g80 rfl rfl rfl rfl rfl TWS2a.l30 TWS2a.n3 ?_
          refine TO.buildSliceS [.int .i64 0, .int .i64 0, .int .i64 0, .int .i64 0, .int .i64 0] [0, 1, 2, 3, 4] rfl rfl rfl rfl TWS2a.l30 TWS2a.n3 TWS2a.z3 rfl rfl (by simp only [setAll, setCells, Value.cells, List.toList_toArray, List.getD_cons_zero, List.getD_cons_succ, List.set_cons_zero, List.set_cons_succ]; rfl) (by kernel_rfl) ?_; intro b81
          refine TO.callX TWS2a.c21 rfl rfl rfl rfl (fun wc hwc => w_acequialow_Ints (a0 := (r12.Head.take (5 : Int).toNat)) (b1 := [1, 2, 0, 3, 2]) wc (RS.take (hwc.rs (f := (intC .i64)) (s := 1) (xs := r12.Head) (j := j22) (fun _ => rfl) (List.Mem.tail _ (List.Mem.tail _ (List.Mem.tail _ (List.Mem.tail _ (List.Mem.head _))))) hn43 hc44 hz46) g80) (hwc.rs (f := (intC .i64)) (s := 1) (xs := [1, 2, 0, 3, 2]) (j := ([])) (fun _ => rfl) (List.Mem.head _) rfl (Nat.le_refl _) someZ) e84) ?_
          rintro _ _ ⟨rfl, rfl⟩
          refine TO.not rfl rfl rfl rfl ?_
          refine TO.pickF rfl rfl rfl rfl rfl ?_
          refine TO.move rfl rfl rfl rfl ?_
          refine TO.decB (t := 32) (b' := true) rfl g85 ?_
          refine TO.shut rfl rfl rfl rfl ?_
          refine TO.shut rfl rfl rfl rfl ?_
          refine TO.shut rfl rfl rfl rfl ?_
          refine TO.shut rfl rfl rfl rfl ?_
          refine TO.shut rfl rfl rfl rfl ?_
          refine TO.shut rfl rfl rfl rfl ?_
          refine TO.pickT rfl rfl rfl rfl rfl ?_
          refine TO.move rfl rfl rfl rfl ?_
          refine TO.shut rfl rfl rfl rfl ?_
          refine TO.shut rfl rfl rfl rfl ?_
          refine TO.shut rfl rfl rfl rfl ?_
          refine TO.shut rfl rfl rfl rfl ?_
          refine TO.shut rfl rfl rfl rfl ?_
          refine TO.pickT rfl rfl rfl rfl rfl ?_
          refine TO.done ?_
          refine X.seq_normal ?_
          refine T.trim (AllF.cons (t := 1) rfl (AllF.cons (t := 46) rfl AllF.nil)) ?_
          refine T.condT rfl rfl ?_
          refine T.seq ?_
          refine T.regionL (ll := [0]) rfl ?_
          refine TO.assign rfl rfl rfl rfl ?_
          refine TO.done ?_
          refine X.seq_normal ?_
          refine T.ret ?_
          refine X.then_ret ?_
          obtain rfl := ret1 H
          exact X.ret1 rfl rfl rfl rfl (Res.tmp rfl) Pick.nil ⟨rfl, rfl⟩
        ·
          obtain ⟨g86, H⟩ := gd_some H
          obtain ⟨r89, e90, H⟩ := bd_some H
          rcases ite_some H with ⟨g91, H⟩ | ⟨g91, H⟩
          ·
            refine T.regionL (ll := [0, 1, 2, 3, 4, 5, 6, 7, 8, 9, 10, 11, 12, 13, 14, 15, 16, 17, 18, 19, 20, 21, 22, 23, 24, 25, 26, 27, 28, 29, 30, 31, 32, 33, 34, 35, 36]) rfl ?_
            refine TO.move rfl rfl rfl rfl ?_
            refine TO.bin rfl rfl rfl rfl rfl rfl ?_
            refine TO.move rfl rfl rfl rfl ?_
            refine TO.decB (t := 12) (b' := false) rfl (decide_eq_false g71) ?_
            refine TO.loadA rfl rfl rfl rfl TWS2a.a33 (List.Mem.head _) rfl ?_
            refine TO.callX TWS2a.c22 rfl rfl rfl rfl (fun wc hwc => w_csr_Len (c0 := r12) wc (hwc.rs (f := (intC .i64)) (s := 1) (xs := r12.First) (j := j18) (fun _ => rfl) (List.Mem.tail _ (List.Mem.head _)) hn39 hc40 hz42) (hwc.rs (f := (intC .i64)) (s := 1) (xs := r12.Head) (j := j22) (fun _ => rfl) (List.Mem.tail _ (List.Mem.tail _ (List.Mem.head _))) hn43 hc44 hz46) (hwc.rs (f := (intC .i64)) (s := 1) (xs := r12.Rev) (j := j26) (fun _ => rfl) (List.Mem.tail _ (List.Mem.tail _ (List.Mem.tail _ (List.Mem.head _)))) hn47 hc48 hz50) (hwc.rs (f := (intC .i64)) (s := 1) (xs := r12.Cap) (j := j30) (fun _ => rfl) (List.Mem.tail _ (List.Mem.tail _ (List.Mem.tail _ (List.Mem.tail _ (List.Mem.head _))))) hn51 hc52 hz54) (hwc.rs (f := (intC .i64)) (s := 1) (xs := r12.Arc) (j := j34) (fun _ => rfl) (List.Mem.tail _ (List.Mem.tail _ (List.Mem.tail _ (List.Mem.tail _ (List.Mem.tail _ (List.Mem.head _)))))) hn55 hc56 hz58) (hwc.rs (f := boolC) (s := 1) (xs := r12.Back) (j := j38) (fun _ => rfl) (List.Mem.tail _ (List.Mem.tail _ (List.Mem.tail _ (List.Mem.tail _ (List.Mem.tail _ (List.Mem.tail _ (List.Mem.head _))))))) hn59 hc60 hz62) e73) ?_
            rintro _ _ ⟨rfl, rfl⟩
            refine TO.bin rfl rfl rfl rfl rfl rfl ?_
            refine TO.pickF rfl rfl rfl rfl rfl ?_
            refine TO.move rfl rfl rfl rfl ?_
            refine TO.decB (t := 17) (b' := false) rfl (decide_eq_false g74) ?_
            refine TO.fieldAddr0 rfl rfl rfl rfl TWS2a.f33_3 ?_
            refine TO.load1 rfl rfl rfl rfl TWS2a.s30 (List.Mem.head _) rfl ?_
            refine TO.buildSliceS [.int .i64 0, .int .i64 0, .int .i64 0, .int .i64 0, .int .i64 0] [0, 1, 2, 3, 4] rfl rfl rfl rfl TWS2a.l30 TWS2a.n3 TWS2a.z3 rfl rfl (by simp only [setAll, setCells, Value.cells, List.toList_toArray, List.getD_cons_zero, List.getD_cons_succ, List.set_cons_zero, List.set_cons_succ]; rfl) (by kernel_rfl) ?_; intro b75
            refine TO.callX TWS2a.c21 rfl rfl rfl rfl (fun wc hwc => w_acequialow_Ints (a0 := r12.First) (b1 := [0, 2, 5, 8, 10]) wc (hwc.rs (f := (intC .i64)) (s := 1) (xs := r12.First) (j := j18) (fun _ => rfl) (List.Mem.tail _ (List.Mem.tail _ (List.Mem.head _))) hn39 hc40 hz42) (hwc.rs (f := (intC .i64)) (s := 1) (xs := [0, 2, 5, 8, 10]) (j := ([])) (fun _ => rfl) (List.Mem.head _) rfl (Nat.le_refl _) someZ) e78) ?_
            rintro _ _ ⟨rfl, rfl⟩
            refine TO.not rfl rfl rfl rfl ?_
            refine TO.pickF rfl rfl rfl rfl rfl ?_
            refine TO.move rfl rfl rfl rfl ?_
            refine TO.decB (t := 24) (b' := false) rfl (Bool.eq_false_iff.2 g79) ?_
            refine TO.fieldAddr0 rfl rfl rfl rfl TWS2a.f33_4 ?_
            refine TO.load1 rfl rfl rfl rfl TWS2a.s30 (List.Mem.tail _ (List.Mem.head _)) rfl ?_
            refine TO.slH (xs := r12.Head) hn43 hc44 g80 rfl rfl rfl rfl rfl TWS2a.l30 TWS2a.n3 ?_
            refine TO.buildSliceS [.int .i64 0, .int .i64 0, .int .i64 0, .int .i64 0, .int .i64 0] [0, 1, 2, 3, 4] rfl rfl rfl rfl TWS2a.l30 TWS2a.n3 TWS2a.z3 rfl rfl (by simp only [setAll, setCells, Value.cells, List.toList_toArray, List.getD_cons_zero, List.getD_cons_succ, List.set_cons_zero, List.set_cons_succ]; rfl) (by kernel_rfl) ?_; intro b81
            refine TO.callX TWS2a.c21 rfl rfl rfl rfl (fun wc hwc => w_acequialow_Ints (a0 := (r12.Head.take (5 : Int).toNat)) (b1 := [1, 2, 0, 3, 2]) wc (RS.take (hwc.rs (f := (intC .i64)) (s := 1) (xs := r12.Head) (j := j22) (fun _ => rfl) (List.Mem.tail _ (List.Mem.tail _ (List.Mem.tail _ (List.Mem.tail _ (List.Mem.head _))))) hn43 hc44 hz46) g80) (hwc.rs (f := (intC .i64)) (s := 1) (xs := [1, 2, 0, 3, 2]) (j := ([])) (fun _ => rfl) (List.Mem.head _) rfl (Nat.le_refl _) someZ) e84) ?_
            rintro _ _ ⟨rfl, rfl⟩
            refine TO.not rfl rfl rfl rfl ?_
            refine TO.pickF rfl rfl rfl rfl rfl ?_
            refine TO.move rfl rfl rfl rfl ?_
            refine TO.decB (t := 32) (b' := false) rfl (Bool.eq_false_iff.2 g85) ?_
            refine TO.fieldAddr0 rfl rfl rfl rfl TWS2a.f33_6 ?_
            refine TO.load1 rfl rfl rfl rfl TWS2a.s25 (List.Mem.tail _ (List.Mem.tail _ (List.Mem.head _))) rfl ?_
            refine TO.slH (xs := r12.Cap) hn51 hc52 g86 rfl rfl rfl rfl rfl TWS2a.l25 TWS2a.n2 ?_
            refine TO.buildSliceS [.int .i64 0, .int .i64 0, .int .i64 0, .int .i64 0, .int .i64 0] [0, 1, 2, 3, 4] rfl rfl rfl rfl TWS2a.l25 TWS2a.n2 TWS2a.z2 rfl rfl (by simp only [setAll, setCells, Value.cells, List.toList_toArray, List.getD_cons_zero, List.getD_cons_succ, List.set_cons_zero, List.set_cons_succ]; rfl) (by kernel_rfl) ?_; intro b87
            refine TO.callX TWS2a.c25 rfl rfl rfl rfl (fun wc hwc => w_acequialow_Longs (a0 := (r12.Cap.take (5 : Int).toNat)) (b1 := [5, 4, 0, 3, 2]) wc (RS.take (hwc.rs (f := (intC .i64)) (s := 1) (xs := r12.Cap) (j := j30) (fun _ => rfl) (List.Mem.tail _ (List.Mem.tail _ (List.Mem.tail _ (List.Mem.tail _ (List.Mem.tail _ (List.Mem.tail _ (List.Mem.tail _ (List.Mem.head _)))))))) hn51 hc52 hz54) g86) (hwc.rs (f := (intC .i64)) (s := 1) (xs := [5, 4, 0, 3, 2]) (j := ([])) (fun _ => rfl) (List.Mem.head _) rfl (Nat.le_refl _) someZ) e90) ?_
            rintro _ _ ⟨rfl, rfl⟩
            refine TO.not rfl rfl rfl rfl ?_
            refine TO.pickF rfl rfl rfl rfl rfl ?_
            refine TO.move rfl rfl rfl rfl ?_
            refine TO.decB (t := 40) (b' := true) rfl g91 ?_
            refine TO.shut rfl rfl rfl rfl ?_
            refine TO.shut rfl rfl rfl rfl ?_
            refine TO.shut rfl rfl rfl rfl ?_
            refine TO.shut rfl rfl rfl rfl ?_
            refine TO.shut rfl rfl rfl rfl ?_
            refine TO.pickT rfl rfl rfl rfl rfl ?_
            refine TO.done ?_
            refine X.seq_normal ?_
            refine T.trim (AllF.cons (t := 1) rfl (AllF.cons (t := 46) rfl AllF.nil)) ?_
            refine T.condT rfl rfl ?_
            refine T.seq ?_
            refine T.regionL (ll := [0]) rfl ?_
            refine TO.assign rfl rfl rfl rfl ?_
            refine TO.done ?_
            refine X.seq_normal ?_
            refine T.ret ?_
            refine X.then_ret ?_
            obtain rfl := ret1 H
            exact X.ret1 rfl rfl rfl rfl (Res.tmp rfl) Pick.nil ⟨rfl, rfl⟩
          ·
            obtain ⟨g92, H⟩ := gd_some H
            refine T.regionL (ll := [0, 1, 2, 3, 4, 5, 6, 7, 8, 9, 10, 11, 12, 13, 14, 15, 16, 17, 18, 19, 20, 21, 22, 23, 24, 25, 26, 27, 28, 29, 30, 31, 32, 33, 34, 35, 36]) rfl ?_
            refine TO.move rfl rfl rfl rfl ?_
            refine TO.bin rfl rfl rfl rfl rfl rfl ?_
            refine TO.move rfl rfl rfl rfl ?_
            refine TO.decB (t := 12) (b' := false) rfl (decide_eq_false g71) ?_
            refine TO.loadA rfl rfl rfl rfl TWS2a.a33 (List.Mem.head _) rfl ?_
            refine TO.callX TWS2a.c22 rfl rfl rfl rfl (fun wc hwc => w_csr_Len (c0 := r12) wc (hwc.rs (f := (intC .i64)) (s := 1) (xs := r12.First) (j := j18) (fun _ => rfl) (List.Mem.tail _ (List.Mem.head _)) hn39 hc40 hz42) (hwc.rs (f := (intC .i64)) (s := 1) (xs := r12.Head) (j := j22) (fun _ => rfl) (List.Mem.tail _ (List.Mem.tail _ (List.Mem.head _))) hn43 hc44 hz46) (hwc.rs (f := (intC .i64)) (s := 1) (xs := r12.Rev) (j := j26) (fun _ => rfl) (List.Mem.tail _ (List.Mem.tail _ (List.Mem.tail _ (List.Mem.head _)))) hn47 hc48 hz50) (hwc.rs (f := (intC .i64)) (s := 1) (xs := r12.Cap) (j := j30) (fun _ => rfl) (List.Mem.tail _ (List.Mem.tail _ (List.Mem.tail _ (List.Mem.tail _ (List.Mem.head _))))) hn51 hc52 hz54) (hwc.rs (f := (intC .i64)) (s := 1) (xs := r12.Arc) (j := j34) (fun _ => rfl) (List.Mem.tail _ (List.Mem.tail _ (List.Mem.tail _ (List.Mem.tail _ (List.Mem.tail _ (List.Mem.head _)))))) hn55 hc56 hz58) (hwc.rs (f := boolC) (s := 1) (xs := r12.Back) (j := j38) (fun _ => rfl) (List.Mem.tail _ (List.Mem.tail _ (List.Mem.tail _ (List.Mem.tail _ (List.Mem.tail _ (List.Mem.tail _ (List.Mem.head _))))))) hn59 hc60 hz62) e73) ?_
            rintro _ _ ⟨rfl, rfl⟩
            refine TO.bin rfl rfl rfl rfl rfl rfl ?_
            refine TO.pickF rfl rfl rfl rfl rfl ?_
            refine TO.move rfl rfl rfl rfl ?_
            refine TO.decB (t := 17) (b' := false) rfl (decide_eq_false g74) ?_
            refine TO.fieldAddr0 rfl rfl rfl rfl TWS2a.f33_3 ?_
            refine TO.load1 rfl rfl rfl rfl TWS2a.s30 (List.Mem.head _) rfl ?_
            refine TO.buildSliceS [.int .i64 0, .int .i64 0, .int .i64 0, .int .i64 0, .int .i64 0] [0, 1, 2, 3, 4] rfl rfl rfl rfl TWS2a.l30 TWS2a.n3 TWS2a.z3 rfl rfl (by simp only [setAll, setCells, Value.cells, List.toList_toArray, List.getD_cons_zero, List.getD_cons_succ, List.set_cons_zero, List.set_cons_succ]; rfl) (by kernel_rfl) ?_; intro b75
            refine TO.callX TWS2a.c21 rfl rfl rfl rfl (fun wc hwc => w_acequialow_Ints (a0 := r12.First) (b1 := [0, 2, 5, 8, 10]) wc (hwc.rs (f := (intC .i64)) (s := 1) (xs := r12.First) (j := j18) (fun _ => rfl) (List.Mem.tail _ (List.Mem.tail _ (List.Mem.head _))) hn39 hc40 hz42) (hwc.rs (f := (intC .i64)) (s := 1) (xs := [0, 2, 5, 8, 10]) (j := ([])) (fun _ => rfl) (List.Mem.head _) rfl (Nat.le_refl _) someZ) e78) ?_
            rintro _ _ ⟨rfl, rfl⟩
            refine TO.not rfl rfl rfl rfl ?_
            refine TO.pickF rfl rfl rfl rfl rfl ?_
            refine TO.move rfl rfl rfl rfl ?_
            refine TO.decB (t := 24) (b' := false) rfl (Bool.eq_false_iff.2 g79) ?_
            refine TO.fieldAddr0 rfl rfl rfl rfl TWS2a.f33_4 ?_
            refine TO.load1 rfl rfl rfl rfl TWS2a.s30 (List.Mem.tail _ (List.Mem.head _)) rfl ?_
            refine TO.slH (xs := r12.Head) hn43 hc44 g80 rfl rfl rfl rfl rfl TWS2a.l30 TWS2a.n3 ?_
            refine TO.buildSliceS [.int .i64 0, .int .i64 0, .int .i64 0, .int .i64 0, .int .i64 0] [0, 1, 2, 3, 4] rfl rfl rfl rfl TWS2a.l30 TWS2a.n3 TWS2a.z3 rfl rfl (by simp only [setAll, setCells, Value.cells, List.toList_toArray, List.getD_cons_zero, List.getD_cons_succ, List.set_cons_zero, List.set_cons_succ]; rfl) (by kernel_rfl) ?_; intro b81
            refine TO.callX TWS2a.c21 rfl rfl rfl rfl (fun wc hwc => w_acequialow_Ints (a0 := (r12.Head.take (5 : Int).toNat)) (b1 := [1, 2, 0, 3, 2]) wc (RS.take (hwc.rs (f := (intC .i64)) (s := 1) (xs := r12.Head) (j := j22) (fun _ => rfl) (List.Mem.tail _ (List.Mem.tail _ (List.Mem.tail _ (List.Mem.tail _ (List.Mem.head _))))) hn43 hc44 hz46) g80) (hwc.rs (f := (intC .i64)) (s := 1) (xs := [1, 2, 0, 3, 2]) (j := ([])) (fun _ => rfl) (List.Mem.head _) rfl (Nat.le_refl _) someZ) e84) ?_
            rintro _ _ ⟨rfl, rfl⟩
            refine TO.not rfl rfl rfl rfl ?_
            refine TO.pickF rfl rfl rfl rfl rfl ?_
            refine TO.move rfl rfl rfl rfl ?_
            refine TO.decB (t := 32) (b' := false) rfl (Bool.eq_false_iff.2 g85) ?_
            refine TO.fieldAddr0 rfl rfl rfl rfl TWS2a.f33_6 ?_
            refine TO.load1 rfl rfl rfl rfl TWS2a.s25 (List.Mem.tail _ (List.Mem.tail _ (List.Mem.head _))) rfl ?_
            refine TO.slH (xs := r12.Cap) hn51 hc52 g86 rfl rfl rfl rfl rfl TWS2a.l25 TWS2a.n2 ?_
            refine TO.buildSliceS [.int .i64 0, .int .i64 0, .int .i64 0, .int .i64 0, .int .i64 0] [0, 1, 2, 3, 4] rfl rfl rfl rfl TWS2a.l25 TWS2a.n2 TWS2a.z2 rfl rfl (by simp only [setAll, setCells, Value.cells, List.toList_toArray, List.getD_cons_zero, List.getD_cons_succ, List.set_cons_zero, List.set_cons_succ]; rfl) (by kernel_rfl) ?_; intro b87
            refine TO.callX TWS2a.c25 rfl rfl rfl rfl (fun wc hwc => w_acequialow_Longs (a0 := (r12.Cap.take (5 : Int).toNat)) (b1 := [5, 4, 0, 3, 2]) wc (RS.take (hwc.rs (f := (intC .i64)) (s := 1) (xs := r12.Cap) (j := j30) (fun _ => rfl) (List.Mem.tail _ (List.Mem.tail _ (List.Mem.tail _ (List.Mem.tail _ (List.Mem.tail _ (List.Mem.tail _ (List.Mem.tail _ (List.Mem.head _)))))))) hn51 hc52 hz54) g86) (hwc.rs (f := (intC .i64)) (s := 1) (xs := [5, 4, 0, 3, 2]) (j := ([])) (fun _ => rfl) (List.Mem.head _) rfl (Nat.le_refl _) someZ) e90) ?_
            rintro _ _ ⟨rfl, rfl⟩
            refine TO.not rfl rfl rfl rfl ?_
            refine TO.pickF rfl rfl rfl rfl rfl ?_
            refine TO.move rfl rfl rfl rfl ?_
            refine TO.decB (t := 40) (b' := false) rfl (Bool.eq_false_iff.2 g91) ?_
            refine TO.fieldAddr0 rfl rfl rfl rfl TWS2a.f33_5 ?_
            refine TO.load1 rfl rfl rfl rfl TWS2a.s30 (List.Mem.tail _ (List.Mem.tail _ (List.Mem.tail _ (List.Mem.head _)))) rfl ?_
            refine TO.ixV hz50 hc48 hn47 g92 rfl rfl rfl rfl rfl TWS2a.l30 TWS2a.n3 ?_
            refine TO.ldIV hz50 hc48 hn47 g92 rfl rfl rfl rfl TWS2a.s3 (List.Mem.tail _ (List.Mem.tail _ (List.Mem.tail _ (List.Mem.tail _ (List.Mem.tail _ (List.Mem.tail _ (List.Mem.head _))))))) ?_
            refine TO.bin rfl rfl rfl rfl rfl rfl ?_
            refine TO.pickF rfl rfl rfl rfl rfl ?_
            refine TO.done ?_
            refine X.seq_normal ?_
            refine T.trim (AllF.cons (t := 1) rfl (AllF.cons (t := 46) rfl AllF.nil)) ?_
            rcases ite_some H with ⟨g93, H⟩ | ⟨g93, H⟩
            ·
              refine T.condPT rfl g93 ?_
              refine T.seq ?_
              refine T.regionL (ll := [0]) rfl ?_
              refine TO.assign rfl rfl rfl rfl ?_
              refine TO.done ?_
              refine X.seq_normal ?_
              refine T.ret ?_
              refine X.then_ret ?_
              obtain rfl := ret1 H
              exact X.ret1 rfl rfl rfl rfl (Res.tmp rfl) Pick.nil ⟨rfl, rfl⟩
            ·
              refine T.condPF rfl g93 ?_
              refine T.skip ?_
              refine X.seq_normal ?_
              refine T.seq ?_
              obtain ⟨⟨r96, r97⟩, e98, H⟩ := bd_some H
              refine T.regionL (ll := [0, 1, 2, 3, 4, 5, 6, 7]) rfl ?_
              refine TO.loadA rfl rfl rfl rfl TWS2a.a33 (List.Mem.tail _ (List.Mem.tail _ (List.Mem.tail _ (List.Mem.head _)))) rfl ?_
              refine TO.buildSliceS [.int .i64 0, .int .i64 0, .int .i64 0, .int .i64 0, .int .i64 0] [0, 1, 2, 3, 4] rfl rfl rfl rfl TWS2a.l25 TWS2a.n2 TWS2a.z2 rfl rfl (by simp only [setAll, setCells, Value.cells, List.toList_toArray, List.getD_cons_zero, List.getD_cons_succ, List.set_cons_zero, List.set_cons_succ]; rfl) (by kernel_rfl) ?_; intro b94
              refine TO.callX TWS2a.c20 rfl rfl rfl rfl (fun wc hwc => w_csr_Res (c0 := r12) (f1 := [3, 0, 3, 0, 0]) wc (hwc.rs (f := (intC .i64)) (s := 1) (xs := r12.First) (j := j18) (fun _ => rfl) (List.Mem.tail _ (List.Mem.tail _ (List.Mem.tail _ (List.Mem.tail _ (List.Mem.tail _ (List.Mem.head _)))))) hn39 hc40 hz42) (hwc.rs (f := (intC .i64)) (s := 1) (xs := r12.Head) (j := j22) (fun _ => rfl) (List.Mem.tail _ (List.Mem.tail _ (List.Mem.tail _ (List.Mem.tail _ (List.Mem.tail _ (List.Mem.tail _ (List.Mem.head _))))))) hn43 hc44 hz46) (hwc.rs (f := (intC .i64)) (s := 1) (xs := r12.Rev) (j := j26) (fun _ => rfl) (List.Mem.tail _ (List.Mem.tail _ (List.Mem.tail _ (List.Mem.tail _ (List.Mem.tail _ (List.Mem.tail _ (List.Mem.tail _ (List.Mem.head _)))))))) hn47 hc48 hz50) (hwc.rs (f := (intC .i64)) (s := 1) (xs := r12.Cap) (j := j30) (fun _ => rfl) (List.Mem.tail _ (List.Mem.tail _ (List.Mem.tail _ (List.Mem.tail _ (List.Mem.tail _ (List.Mem.tail _ (List.Mem.tail _ (List.Mem.tail _ (List.Mem.head _))))))))) hn51 hc52 hz54) (hwc.rs (f := (intC .i64)) (s := 1) (xs := r12.Arc) (j := j34) (fun _ => rfl) (List.Mem.tail _ (List.Mem.tail _ (List.Mem.tail _ (List.Mem.tail _ (List.Mem.tail _ (List.Mem.tail _ (List.Mem.tail _ (List.Mem.tail _ (List.Mem.tail _ (List.Mem.head _)))))))))) hn55 hc56 hz58) (hwc.rs (f := boolC) (s := 1) (xs := r12.Back) (j := j38) (fun _ => rfl) (List.Mem.tail _ (List.Mem.tail _ (List.Mem.tail _ (List.Mem.tail _ (List.Mem.tail _ (List.Mem.tail _ (List.Mem.tail _ (List.Mem.tail _ (List.Mem.tail _ (List.Mem.tail _ (List.Mem.head _))))))))))) hn59 hc60 hz62) (hwc.rs (f := (intC .i64)) (s := 1) (xs := [3, 0, 3, 0, 0]) (j := ([])) (fun _ => rfl) (List.Mem.head _) rfl (Nat.le_refl _) someZ) e98) ?_
              rintro _ _ ⟨ob99, n100, c101, j102, rfl, rfl, hn103, hc104, hj105, hz106⟩
              refine TO.move rfl rfl rfl rfl ?_
              refine TO.extract rfl rfl rfl rfl rfl ?_
              refine TO.extract rfl rfl rfl rfl rfl ?_
              refine TO.assign rfl rfl rfl rfl ?_
              refine TO.assign rfl rfl rfl rfl ?_
              refine TO.done ?_
              refine X.seq_normal ?_
              refine T.trim (AllF.cons (t := 3) rfl (AllF.cons (t := 4) rfl AllF.nil)) ?_
              refine T.seq ?_
              rcases ite_some H with ⟨g108, H⟩ | ⟨g108, H⟩
              ·
                rcases ite_some H with ⟨g109, H⟩ | ⟨g109, H⟩
                ·
                  obtain ⟨g110, H⟩ := gd_some H
                  obtain ⟨r113, e114, H⟩ := bd_some H
                  refine T.regionL (ll := [0, 1, 2, 3, 4, 5, 6, 7, 8, 9, 10, 11, 12, 13]) rfl ?_
                  refine TO.move rfl rfl rfl rfl ?_
                  refine TO.bin rfl rfl rfl rfl rfl rfl ?_
                  refine TO.move rfl rfl rfl rfl ?_
                  refine TO.decB (t := 55) (b' := true) rfl (decide_eq_true g108) ?_
                  refine TO.move rfl rfl rfl rfl ?_
                  refine TO.lenX (xs := r96) hn103 rfl rfl rfl rfl rfl TWS2a.l25 ?_
                  refine TO.bin rfl rfl rfl rfl rfl rfl ?_
                  refine TO.pickT rfl rfl rfl rfl rfl ?_
                  refine TO.move rfl rfl rfl rfl ?_
                  refine TO.decB (t := 60) (b' := true) rfl (decide_eq_true g109) ?_
                  refine TO.move rfl rfl rfl rfl ?_
                  refine TO.slH (xs := r96) hn103 hc104 g110 rfl rfl rfl rfl rfl TWS2a.l25 TWS2a.n2 ?_
                  refine TO.buildSliceS [.int .i64 0, .int .i64 0, .int .i64 0, .int .i64 0, .int .i64 0] [0, 1, 2, 3, 4] rfl rfl rfl rfl TWS2a.l25 TWS2a.n2 TWS2a.z2 rfl rfl (by simp only [setAll, setCells, Value.cells, List.toList_toArray, List.getD_cons_zero, List.getD_cons_succ, List.set_cons_zero, List.set_cons_succ]; rfl) (by kernel_rfl) ?_; intro b111
                  refine TO.callX TWS2a.c25 rfl rfl rfl rfl (fun wc hwc => w_acequialow_Longs (a0 := (r96.take (5 : Int).toNat)) (b1 := [2, 4, 3, 0, 2]) wc (RS.take (hwc.rs (f := (intC .i64)) (s := 1) (xs := r96) (j := j102) (fun _ => rfl) (List.Mem.tail _ (List.Mem.head _)) hn103 hc104 hz106) g110) (hwc.rs (f := (intC .i64)) (s := 1) (xs := [2, 4, 3, 0, 2]) (j := ([])) (fun _ => rfl) (List.Mem.head _) rfl (Nat.le_refl _) someZ) e114) ?_
                  rintro _ _ ⟨rfl, rfl⟩
                  refine TO.pickT rfl rfl rfl rfl rfl ?_
                  refine TO.assign rfl rfl rfl rfl ?_
                  refine TO.done ?_
                  refine X.seq_normal ?_
                  refine T.trim (AllF.cons (t := 0) rfl AllF.nil) ?_
                  refine T.ret ?_
                  obtain rfl := ret1 H
                  exact X.ret1 rfl rfl rfl rfl (Res.tmp rfl) Pick.nil ⟨rfl, rfl⟩
                ·
                  refine T.regionL (ll := [0, 1, 2, 3, 4, 5, 6, 7, 8, 9, 10, 11, 12, 13]) rfl ?_
                  refine TO.move rfl rfl rfl rfl ?_
                  refine TO.bin rfl rfl rfl rfl rfl rfl ?_
                  refine TO.move rfl rfl rfl rfl ?_
                  refine TO.decB (t := 55) (b' := true) rfl (decide_eq_true g108) ?_
                  refine TO.move rfl rfl rfl rfl ?_
                  refine TO.lenX (xs := r96) hn103 rfl rfl rfl rfl rfl TWS2a.l25 ?_
                  refine TO.bin rfl rfl rfl rfl rfl rfl ?_
                  refine TO.pickT rfl rfl rfl rfl rfl ?_
                  refine TO.move rfl rfl rfl rfl ?_
                  refine TO.decB (t := 60) (b' := false) rfl (decide_eq_false g109) ?_
                  refine TO.shut rfl rfl rfl rfl ?_
                  refine TO.shut rfl rfl rfl rfl ?_
                  refine TO.shut rfl rfl rfl rfl ?_
                  refine TO.shut rfl rfl rfl rfl ?_
                  refine TO.pickF rfl rfl rfl rfl rfl ?_
                  refine TO.assign rfl rfl rfl rfl ?_
                  refine TO.done ?_
                  refine X.seq_normal ?_
                  refine T.trim (AllF.cons (t := 0) rfl AllF.nil) ?_
                  refine T.ret ?_
                  obtain rfl := ret1 H
                  exact X.ret1 rfl rfl rfl rfl (Res.tmp rfl) Pick.nil ⟨rfl, rfl⟩
              ·
                refine T.regionL (ll := [0, 1, 2, 3, 4, 5, 6, 7, 8, 9, 10, 11, 12, 13]) rfl ?_
                refine TO.move rfl rfl rfl rfl ?_
                refine TO.bin rfl rfl rfl rfl rfl rfl ?_
                refine TO.move rfl rfl rfl rfl ?_
                refine TO.decB (t := 55) (b' := false) rfl (decide_eq_false g108) ?_
                refine TO.shut rfl rfl rfl rfl ?_
                refine TO.shut rfl rfl rfl rfl ?_
                refine TO.shut rfl rfl rfl rfl ?_
                refine TO.pickF rfl rfl rfl rfl rfl ?_
                refine TO.move rfl rfl rfl rfl ?_
                refine TO.shut rfl rfl rfl rfl ?_
                refine TO.shut rfl rfl rfl rfl ?_
                refine TO.shut rfl rfl rfl rfl ?_
                refine TO.shut rfl rfl rfl rfl ?_
                refine TO.pickF rfl rfl rfl rfl rfl ?_
                refine TO.assign rfl rfl rfl rfl ?_
                refine TO.done ?_
                refine X.seq_normal ?_
                refine T.trim (AllF.cons (t := 0) rfl AllF.nil) ?_
                refine T.ret ?_
                obtain rfl := ret1 H
                exact X.ret1 rfl rfl rfl rfl (Res.tmp rfl) Pick.nil ⟨rfl, rfl⟩
end Go.Proofs.Ytcdbemdogkmahaa.Ax
