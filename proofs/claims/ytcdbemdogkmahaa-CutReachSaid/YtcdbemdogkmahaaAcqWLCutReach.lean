/- What a call does is what its model says: acequialaw04.CutReach. (Printed by sx.py.) -/
import Derived.Test.YtcdbemdogkmahaaAcqMLCutReach
import Derived.Test.YtcdbemdogkmahaaAcqSqR
import Derived.Test.YtcdbemdogkmahaaAcqWS4
namespace Go.Proofs.Ytcdbemdogkmahaa.Ax
open Go Go.Acq Go.RowKit Go.Proofs
set_option linter.unusedVariables false
set_option linter.unusedSimpArgs false
set_option maxHeartbeats 8000000
set_option maxRecDepth 20000
theorem TWLCutReach.a24 : aggT Try.prog 24 4 = true := by kernel_rfl
theorem TWLCutReach.a28 : aggT Try.prog 28 3 = true := by kernel_rfl
theorem TWLCutReach.c17 : callable Try.prog 17 = true := by kernel_rfl
theorem TWLCutReach.c18 : callable Try.prog 18 = true := by kernel_rfl
theorem TWLCutReach.c39 : callable Try.prog 39 = true := by kernel_rfl
theorem TWLCutReach.c40 : callable Try.prog 40 = true := by kernel_rfl
theorem TWLCutReach.c41 : callable Try.prog 41 = true := by kernel_rfl
theorem TWLCutReach.c42 : callable Try.prog 42 = true := by kernel_rfl
theorem TWLCutReach.f24_0 : fieldT Try.prog 24 0 = some 0 := by kernel_rfl
theorem TWLCutReach.f24_1 : fieldT Try.prog 24 1 = some 1 := by kernel_rfl
theorem TWLCutReach.f24_2 : fieldT Try.prog 24 2 = some 2 := by kernel_rfl
theorem TWLCutReach.f24_3 : fieldT Try.prog 24 3 = some 3 := by kernel_rfl
theorem TWLCutReach.f28_0 : fieldT Try.prog 28 0 = some 0 := by kernel_rfl
theorem TWLCutReach.f28_1 : fieldT Try.prog 28 1 = some 1 := by kernel_rfl
theorem TWLCutReach.f28_2 : fieldT Try.prog 28 2 = some 2 := by kernel_rfl
theorem TWLCutReach.l22 : sliceT Try.prog 22 = some 28 := by kernel_rfl
theorem TWLCutReach.l25 : sliceT Try.prog 25 = some 2 := by kernel_rfl
theorem TWLCutReach.l31 : sliceT Try.prog 31 = some 4 := by kernel_rfl
theorem TWLCutReach.n2 : sizeT Try.prog 2 = some 1 := by kernel_rfl
theorem TWLCutReach.n24 : sizeT Try.prog 24 = some 4 := by kernel_rfl
theorem TWLCutReach.n28 : sizeT Try.prog 28 = some 3 := by kernel_rfl
theorem TWLCutReach.n4 : sizeT Try.prog 4 = some 1 := by kernel_rfl
theorem TWLCutReach.s2 : scalT Try.prog 2 = true := by kernel_rfl
theorem TWLCutReach.s22 : scalT Try.prog 22 = true := by kernel_rfl
theorem TWLCutReach.s3 : scalT Try.prog 3 = true := by kernel_rfl
theorem TWLCutReach.s4 : scalT Try.prog 4 = true := by kernel_rfl
theorem TWLCutReach.u4 : Try.prog.underlying 4 = some .bool := by kernel_rfl
theorem TWLCutReach.z28 : zeroT Try.prog 28 = some (.agg #[.int .i64 0, .int .i64 0, .int .i64 0]) := by kernel_rfl

/-- acequia/acequialaw04.CutReach -/
theorem w_acequialaw04_CutReach {n0 : Net} {l1 : List Int} {n0_Arcs_b : Option Addr} {n0_Arcs_n : Nat} {n0_Arcs_c : Nat} {l1_b : Option Addr} {l1_n : Nat} {l1_c : Nat} (w : World) (h_n0_Arcs : RS w [] arcC 3 n0_Arcs_b n0_Arcs_n n0_Arcs_c n0.Arcs) (h_l1 : RS w [] (intC .i64) 1 l1_b l1_n l1_c l1) {r0 : Bool} (H : m_acequialaw04_CutReach n0 l1 = some r0) : Fnc Try.prog 12 #[.agg #[.int .i64 n0.N, .int .i64 n0.S, .int .i64 n0.T, .slice n0_Arcs_b n0_Arcs_n n0_Arcs_c], .slice l1_b l1_n l1_c] w [] (fun v N => v = .bool r0 ∧ N = []) := by
  unfold m_acequialaw04_CutReach at H
  refine Fnc.enter (vs := [.agg #[.int .i64 n0.N, .int .i64 n0.S, .int .i64 n0.T, .slice n0_Arcs_b n0_Arcs_n n0_Arcs_c], .slice l1_b l1_n l1_c]) Try.func12 rfl rfl (Inv.refl w) ?_
  refine T.seq ?_
  refine T.regionL (ll := [0, 1]) rfl ?_
  refine TO.boxA rfl rfl rfl rfl ?_; intro b1
  refine TO.assign rfl rfl rfl rfl ?_
  refine TO.done ?_
  refine X.seq_normal ?_
  refine T.seq ?_
  obtain ⟨r3, e4, H⟩ := bd_some H
  refine T.regionL (ll := [0, 1, 2]) rfl ?_
  refine TO.loadA rfl rfl rfl rfl TWLCutReach.a24 (List.Mem.head _) rfl ?_
  refine TO.callX TWLCutReach.c17 rfl rfl rfl rfl (fun wc hwc => w_acequialow_Some (n0 := n0) (verts1 := 30) (arcs2 := 60) wc (h_n0_Arcs.mono hwc) e4) ?_
  rintro _ _ ⟨ob5, n6, c7, j8, rfl, rfl, hn9, hc10, hj11, hz12⟩
  refine TO.storeA rfl rfl rfl rfl (Take.tail (Take.head _ _)) TWLCutReach.n24 rfl rfl rfl ?_
  refine TO.done ?_
  refine X.seq_normal ?_
  refine T.seq ?_
  obtain ⟨r14, e15, H⟩ := bd_some H
  refine T.regionL (ll := [0, 1, 2, 3]) rfl ?_
  refine TO.loadA rfl rfl rfl rfl TWLCutReach.a24 (List.Mem.head _) rfl ?_
  refine TO.move rfl rfl rfl rfl ?_
  refine TO.callX TWLCutReach.c18 rfl rfl rfl rfl (fun wc hwc => w_acequialow_Within (n0 := r3) (l1 := l1) wc (hwc.rs (f := arcC) (s := 3) (xs := r3.Arcs) (j := j8) (fun _ => rfl) (List.Mem.tail _ (List.Mem.head _)) hn9 hc10 hz12) (h_l1.mono hwc) e15) ?_
  rintro _ _ ⟨ob16, n17, c18, j19, rfl, rfl, hn20, hc21, hj22, hz23⟩
  refine TO.assign rfl rfl rfl rfl ?_
  refine TO.done ?_
  refine X.seq_normal ?_
  refine T.trim (AllF.cons (t := 2) rfl (AllF.cons (t := 5) rfl AllF.nil)) ?_
  refine T.seq ?_
  obtain ⟨⟨r25, r26⟩, e27, H⟩ := bd_some H
  refine T.regionL (ll := [0, 1, 2, 3, 4, 5, 6, 7]) rfl ?_
  refine TO.loadA rfl rfl rfl rfl TWLCutReach.a24 (List.Mem.tail _ (List.Mem.head _)) rfl ?_
  refine TO.move rfl rfl rfl rfl ?_
  refine TO.callX TWLCutReach.c39 rfl rfl rfl rfl (fun wc hwc => w_cut_From (n0 := r3) (f1 := r14) wc (hwc.rs (f := arcC) (s := 3) (xs := r3.Arcs) (j := j8) (fun _ => rfl) (List.Mem.tail _ (List.Mem.tail _ (List.Mem.head _))) hn9 hc10 hz12) (hwc.rs (f := (intC .i64)) (s := 1) (xs := r14) (j := j19) (fun _ => rfl) (List.Mem.head _) hn20 hc21 hz23) e27) ?_
  rintro _ _ ⟨ob28, n29, c30, j31, rfl, rfl, hn32, hc33, hj34, hz35⟩
  refine TO.move rfl rfl rfl rfl ?_
  refine TO.extract rfl rfl rfl rfl rfl ?_
  refine TO.extract rfl rfl rfl rfl rfl ?_
  refine TO.assign rfl rfl rfl rfl ?_
  refine TO.assign rfl rfl rfl rfl ?_
  refine TO.done ?_
  refine X.seq_normal ?_
  refine T.seq ?_
  obtain ⟨⟨r37, r38⟩, e39, H⟩ := bd_some H
  refine T.regionL (ll := [0, 1, 2, 3, 4, 5, 6, 7]) rfl ?_
  refine TO.loadA rfl rfl rfl rfl TWLCutReach.a24 (List.Mem.tail _ (List.Mem.tail _ (List.Mem.head _))) rfl ?_
  refine TO.move rfl rfl rfl rfl ?_
  refine TO.callX TWLCutReach.c40 rfl rfl rfl rfl (fun wc hwc => w_cut_To (n0 := r3) (f1 := r14) wc (hwc.rs (f := arcC) (s := 3) (xs := r3.Arcs) (j := j8) (fun _ => rfl) (List.Mem.tail _ (List.Mem.tail _ (List.Mem.tail _ (List.Mem.head _)))) hn9 hc10 hz12) (hwc.rs (f := (intC .i64)) (s := 1) (xs := r14) (j := j19) (fun _ => rfl) (List.Mem.tail _ (List.Mem.head _)) hn20 hc21 hz23) e39) ?_
  rintro _ _ ⟨ob40, n41, c42, j43, rfl, rfl, hn44, hc45, hj46, hz47⟩
  refine TO.move rfl rfl rfl rfl ?_
  refine TO.extract rfl rfl rfl rfl rfl ?_
  refine TO.extract rfl rfl rfl rfl rfl ?_
  refine TO.assign rfl rfl rfl rfl ?_
  refine TO.assign rfl rfl rfl rfl ?_
  refine TO.done ?_
  refine X.seq_normal ?_
  refine T.trim (AllF.cons (t := 2) rfl (AllF.cons (t := 5) rfl (AllF.cons (t := 6) rfl (AllF.cons (t := 7) rfl (AllF.cons (t := 8) rfl (AllF.cons (t := 9) rfl AllF.nil)))))) ?_
  refine T.seq ?_
  refine T.seq ?_
  refine T.drawS 54 [0, 1, 2, 3, 4, 5, 6, 7, 8, 9, 10, 11, 12, 13, 14, 15, 16, 17, 18, 19, 20, 21, 22, 23, 24, 25, 26, 27, 28, 29, 30, 31, 32, 33, 34, 35, 36, 37, 38, 39, 40, 41, 42, 43, 44, 45, 46, 47, 48, 49, 50, 51, 52, 53] rfl mixed (by kernel_rfl) (by kernel_rfl) rfl (by kernel_rfl) ?_
  refine TQ.move rfl rfl rfl rfl ?_
  refine TQ.bin rfl rfl rfl rfl rfl rfl ?_
  refine TQ.move rfl rfl rfl rfl ?_
  refine TQ.join [3, 4, 5] [6, 7, 8, 9, 10, 11, 12, 13, 14, 15, 16, 17, 18, 19, 20, 21, 22, 23, 24, 25, 26, 27, 28, 29, 30, 31, 32, 33, 34, 35, 36, 37, 38, 39, 40, 41, 42, 43, 44, 45, 46, 47, 48, 49, 50, 51, 52, 53] rfl 36 (fun b50 => m_acequialaw04_CutReach_j1 r3 r14 r25 r37 b50 = some r0) [(2, .pointer (some ⟨b1, 0, none⟩)), (5, .slice (sb ob16) n17 c18), (6, .slice (sb ob28) n29 c30), (8, .slice (sb ob40) n41 c42)] ?_ ?_
  ·
    rcases ite_some H with ⟨g49, H⟩ | ⟨g49, H⟩
    ·
      refine TQ.decB (t := 33) (b' := true) rfl (decide_eq_true g49) ?_
      refine TQ.shut rfl rfl rfl rfl ?_
      refine TQ.shut rfl rfl rfl rfl ?_
      refine TQ.pickT rfl rfl rfl rfl rfl ?_
      exact TQ.jn (b := true) H (AllF.cons rfl (AllF.cons rfl (AllF.cons rfl (AllF.cons rfl (AllF.cons rfl AllF.nil)))))
    ·
      refine TQ.decB (t := 33) (b' := false) rfl (decide_eq_false g49) ?_
      refine TQ.move rfl rfl rfl rfl ?_
      refine TQ.bin rfl rfl rfl rfl rfl rfl ?_
      refine TQ.pickF rfl rfl rfl rfl rfl ?_
      exact TQ.jn (b := (decide (r38 ≠ 0))) H (AllF.cons rfl (AllF.cons rfl (AllF.cons rfl (AllF.cons rfl (AllF.cons rfl AllF.nil)))))
  · rintro b50 H
    unfold m_acequialaw04_CutReach_j1 at H
    refine TQ.move rfl rfl rfl rfl ?_
    refine TQ.join [7, 8, 9, 10, 11, 12] [13, 14, 15, 16, 17, 18, 19, 20, 21, 22, 23, 24, 25, 26, 27, 28, 29, 30, 31, 32, 33, 34, 35, 36, 37, 38, 39, 40, 41, 42, 43, 44, 45, 46, 47, 48, 49, 50, 51, 52, 53] rfl 43 (fun b52 => m_acequialaw04_CutReach_j2 r3 r14 r25 r37 b52 = some r0) [(2, .pointer (some ⟨b1, 0, none⟩)), (5, .slice (sb ob16) n17 c18), (6, .slice (sb ob28) n29 c30), (8, .slice (sb ob40) n41 c42)] ?_ ?_
    ·
      rcases ite_some H with ⟨g51, H⟩ | ⟨g51, H⟩
      ·
        refine TQ.decB (t := 37) (b' := true) rfl g51 ?_
        refine TQ.shut rfl rfl rfl rfl ?_
        refine TQ.shut rfl rfl rfl rfl ?_
        refine TQ.shut rfl rfl rfl rfl ?_
        refine TQ.shut rfl rfl rfl rfl ?_
        refine TQ.shut rfl rfl rfl rfl ?_
        refine TQ.pickT rfl rfl rfl rfl rfl ?_
        exact TQ.jn (b := true) H (AllF.cons rfl (AllF.cons rfl (AllF.cons rfl (AllF.cons rfl (AllF.cons rfl AllF.nil)))))
      ·
        refine TQ.decB (t := 37) (b' := false) rfl (Bool.eq_false_iff.2 g51) ?_
        refine TQ.move rfl rfl rfl rfl ?_
        refine TQ.lenX (xs := r25) hn32 rfl rfl rfl rfl rfl TWLCutReach.l31 ?_
        refine TQ.fieldAddr0 rfl rfl rfl rfl TWLCutReach.f24_0 ?_
        refine TQ.load1 rfl rfl rfl rfl TWLCutReach.s3 (List.Mem.tail _ (List.Mem.tail _ (List.Mem.tail _ (List.Mem.head _)))) rfl ?_
        refine TQ.bin rfl rfl rfl rfl rfl rfl ?_
        refine TQ.pickF rfl rfl rfl rfl rfl ?_
        exact TQ.jn (b := (decide ((r25.length : Int) ≠ r3.N))) H (AllF.cons rfl (AllF.cons rfl (AllF.cons rfl (AllF.cons rfl (AllF.cons rfl AllF.nil)))))
    · rintro b52 H
      unfold m_acequialaw04_CutReach_j2 at H
      refine TQ.move rfl rfl rfl rfl ?_
      refine TQ.join [14, 15, 16, 17, 18, 19] [20, 21, 22, 23, 24, 25, 26, 27, 28, 29, 30, 31, 32, 33, 34, 35, 36, 37, 38, 39, 40, 41, 42, 43, 44, 45, 46, 47, 48, 49, 50, 51, 52, 53] rfl 50 (fun b54 => m_acequialaw04_CutReach_j3 r3 r14 r25 r37 b54 = some r0) [(2, .pointer (some ⟨b1, 0, none⟩)), (5, .slice (sb ob16) n17 c18), (6, .slice (sb ob28) n29 c30), (8, .slice (sb ob40) n41 c42)] ?_ ?_
      ·
        rcases ite_some H with ⟨g53, H⟩ | ⟨g53, H⟩
        ·
          refine TQ.decB (t := 44) (b' := true) rfl g53 ?_
          refine TQ.shut rfl rfl rfl rfl ?_
          refine TQ.shut rfl rfl rfl rfl ?_
          refine TQ.shut rfl rfl rfl rfl ?_
          refine TQ.shut rfl rfl rfl rfl ?_
          refine TQ.shut rfl rfl rfl rfl ?_
          refine TQ.pickT rfl rfl rfl rfl rfl ?_
          exact TQ.jn (b := true) H (AllF.cons rfl (AllF.cons rfl (AllF.cons rfl (AllF.cons rfl (AllF.cons rfl AllF.nil)))))
        ·
          refine TQ.decB (t := 44) (b' := false) rfl (Bool.eq_false_iff.2 g53) ?_
          refine TQ.move rfl rfl rfl rfl ?_
          refine TQ.lenX (xs := r37) hn44 rfl rfl rfl rfl rfl TWLCutReach.l31 ?_
          refine TQ.fieldAddr0 rfl rfl rfl rfl TWLCutReach.f24_0 ?_
          refine TQ.load1 rfl rfl rfl rfl TWLCutReach.s3 (List.Mem.tail _ (List.Mem.tail _ (List.Mem.tail _ (List.Mem.head _)))) rfl ?_
          refine TQ.bin rfl rfl rfl rfl rfl rfl ?_
          refine TQ.pickF rfl rfl rfl rfl rfl ?_
          exact TQ.jn (b := (decide ((r37.length : Int) ≠ r3.N))) H (AllF.cons rfl (AllF.cons rfl (AllF.cons rfl (AllF.cons rfl (AllF.cons rfl AllF.nil)))))
      · rintro b54 H
        unfold m_acequialaw04_CutReach_j3 at H
        refine TQ.move rfl rfl rfl rfl ?_
        refine TQ.join [21, 22, 23, 24, 25, 26, 27] [28, 29, 30, 31, 32, 33, 34, 35, 36, 37, 38, 39, 40, 41, 42, 43, 44, 45, 46, 47, 48, 49, 50, 51, 52, 53] rfl 58 (fun b57 => m_acequialaw04_CutReach_j4 r3 r14 r25 r37 b57 = some r0) [(2, .pointer (some ⟨b1, 0, none⟩)), (5, .slice (sb ob16) n17 c18), (6, .slice (sb ob28) n29 c30), (8, .slice (sb ob40) n41 c42)] ?_ ?_
        ·
          rcases ite_some H with ⟨g55, H⟩ | ⟨g55, H⟩
          ·
            refine TQ.decB (t := 51) (b' := true) rfl g55 ?_
            refine TQ.shut rfl rfl rfl rfl ?_
            refine TQ.shut rfl rfl rfl rfl ?_
            refine TQ.shut rfl rfl rfl rfl ?_
            refine TQ.shut rfl rfl rfl rfl ?_
            refine TQ.shut rfl rfl rfl rfl ?_
            refine TQ.shut rfl rfl rfl rfl ?_
            refine TQ.pickT rfl rfl rfl rfl rfl ?_
            exact TQ.jn (b := true) H (AllF.cons rfl (AllF.cons rfl (AllF.cons rfl (AllF.cons rfl (AllF.cons rfl AllF.nil)))))
          ·
            obtain ⟨g56, H⟩ := gd_some H
            refine TQ.decB (t := 51) (b' := false) rfl (Bool.eq_false_iff.2 g55) ?_
            refine TQ.move rfl rfl rfl rfl ?_
            refine TQ.fieldAddr0 rfl rfl rfl rfl TWLCutReach.f24_1 ?_
            refine TQ.load1 rfl rfl rfl rfl TWLCutReach.s3 (List.Mem.tail _ (List.Mem.tail _ (List.Mem.tail _ (List.Mem.head _)))) rfl ?_
            refine TQ.ixV hz35 hc33 hn32 g56 rfl rfl rfl rfl rfl TWLCutReach.l31 TWLCutReach.n4 ?_
            refine TQ.ldBV hz35 hc33 hn32 g56 rfl rfl rfl rfl TWLCutReach.s4 (List.Mem.tail _ (List.Mem.head _)) ?_
            refine TQ.not rfl rfl rfl rfl ?_
            refine TQ.pickF rfl rfl rfl rfl rfl ?_
            exact TQ.jn (b := (!(r25.getD r3.S.toNat false))) H (AllF.cons rfl (AllF.cons rfl (AllF.cons rfl (AllF.cons rfl (AllF.cons rfl AllF.nil)))))
        · rintro b57 H
          unfold m_acequialaw04_CutReach_j4 at H
          refine TQ.move rfl rfl rfl rfl ?_
          refine TQ.join [29, 30, 31, 32, 33, 34] [35, 36, 37, 38, 39, 40, 41, 42, 43, 44, 45, 46, 47, 48, 49, 50, 51, 52, 53] rfl 65 (fun b60 => m_acequialaw04_CutReach_j5 r3 r14 r25 r37 b60 = some r0) [(2, .pointer (some ⟨b1, 0, none⟩)), (5, .slice (sb ob16) n17 c18), (6, .slice (sb ob28) n29 c30), (8, .slice (sb ob40) n41 c42)] ?_ ?_
          ·
            rcases ite_some H with ⟨g58, H⟩ | ⟨g58, H⟩
            ·
              refine TQ.decB (t := 59) (b' := true) rfl g58 ?_
              refine TQ.shut rfl rfl rfl rfl ?_
              refine TQ.shut rfl rfl rfl rfl ?_
              refine TQ.shut rfl rfl rfl rfl ?_
              refine TQ.shut rfl rfl rfl rfl ?_
              refine TQ.shut rfl rfl rfl rfl ?_
              refine TQ.pickT rfl rfl rfl rfl rfl ?_
              exact TQ.jn (b := true) H (AllF.cons rfl (AllF.cons rfl (AllF.cons rfl (AllF.cons rfl (AllF.cons rfl AllF.nil)))))
            ·
              obtain ⟨g59, H⟩ := gd_some H
              refine TQ.decB (t := 59) (b' := false) rfl (Bool.eq_false_iff.2 g58) ?_
              refine TQ.move rfl rfl rfl rfl ?_
              refine TQ.fieldAddr0 rfl rfl rfl rfl TWLCutReach.f24_2 ?_
              refine TQ.load1 rfl rfl rfl rfl TWLCutReach.s3 (List.Mem.tail _ (List.Mem.tail _ (List.Mem.tail _ (List.Mem.head _)))) rfl ?_
              refine TQ.ixV hz47 hc45 hn44 g59 rfl rfl rfl rfl rfl TWLCutReach.l31 TWLCutReach.n4 ?_
              refine TQ.ldBV hz47 hc45 hn44 g59 rfl rfl rfl rfl TWLCutReach.s4 (List.Mem.head _) ?_
              refine TQ.pickF rfl rfl rfl rfl rfl ?_
              exact TQ.jn (b := (r37.getD r3.T.toNat false)) H (AllF.cons rfl (AllF.cons rfl (AllF.cons rfl (AllF.cons rfl (AllF.cons rfl AllF.nil)))))
          · rintro b60 H
            unfold m_acequialaw04_CutReach_j5 at H
            refine TQ.move rfl rfl rfl rfl ?_
            refine TQ.join [36, 37, 38, 39, 40, 41, 42, 43] [44, 45, 46, 47, 48, 49, 50, 51, 52, 53] rfl 74 (fun b66 => m_acequialaw04_CutReach_j6 r3 r14 r25 r37 b66 = some r0) [(2, .pointer (some ⟨b1, 0, none⟩)), (5, .slice (sb ob16) n17 c18), (6, .slice (sb ob28) n29 c30), (8, .slice (sb ob40) n41 c42)] ?_ ?_
            ·
              rcases ite_some H with ⟨g61, H⟩ | ⟨g61, H⟩
              ·
                refine TQ.decB (t := 66) (b' := true) rfl g61 ?_
                refine TQ.shut rfl rfl rfl rfl ?_
                refine TQ.shut rfl rfl rfl rfl ?_
                refine TQ.shut rfl rfl rfl rfl ?_
                refine TQ.shut rfl rfl rfl rfl ?_
                refine TQ.shut rfl rfl rfl rfl ?_
                refine TQ.shut rfl rfl rfl rfl ?_
                refine TQ.shut rfl rfl rfl rfl ?_
                refine TQ.pickT rfl rfl rfl rfl rfl ?_
                exact TQ.jn (b := true) H (AllF.cons rfl (AllF.cons rfl (AllF.cons rfl (AllF.cons rfl (AllF.cons rfl AllF.nil)))))
              ·
                obtain ⟨r62, e63, H⟩ := bd_some H
                obtain ⟨r64, e65, H⟩ := bd_some H
                refine TQ.decB (t := 66) (b' := false) rfl (Bool.eq_false_iff.2 g61) ?_
                refine TQ.loadA rfl rfl rfl rfl TWLCutReach.a24 (List.Mem.tail _ (List.Mem.tail _ (List.Mem.tail _ (List.Mem.head _)))) rfl ?_
                refine TQ.move rfl rfl rfl rfl ?_
                refine TQ.callX TWLCutReach.c41 rfl rfl rfl rfl (fun wc hwc => w_cut_Right (n0 := r3) (s1 := r25) wc (hwc.rs (f := arcC) (s := 3) (xs := r3.Arcs) (j := j8) (fun _ => rfl) (List.Mem.tail _ (List.Mem.tail _ (List.Mem.tail _ (List.Mem.tail _ (List.Mem.head _))))) hn9 hc10 hz12) (hwc.rs (f := boolC) (s := 1) (xs := r25) (j := j31) (fun _ => rfl) (List.Mem.tail _ (List.Mem.head _)) hn32 hc33 hz35) e63) (by rintro _ _ ⟨rfl, rfl⟩; rfl) ?_
                refine TQ.loadA rfl rfl rfl rfl TWLCutReach.a24 (List.Mem.tail _ (List.Mem.tail _ (List.Mem.tail _ (List.Mem.head _)))) rfl ?_
                refine TQ.move rfl rfl rfl rfl ?_
                refine TQ.callX TWLCutReach.c41 rfl rfl rfl rfl (fun wc hwc => w_cut_Right (n0 := r3) (s1 := r37) wc (hwc.rs (f := arcC) (s := 3) (xs := r3.Arcs) (j := j8) (fun _ => rfl) (List.Mem.tail _ (List.Mem.tail _ (List.Mem.tail _ (List.Mem.tail _ (List.Mem.head _))))) hn9 hc10 hz12) (hwc.rs (f := boolC) (s := 1) (xs := r37) (j := j43) (fun _ => rfl) (List.Mem.head _) hn44 hc45 hz47) e65) (by rintro _ _ ⟨rfl, rfl⟩; rfl) ?_
                refine TQ.neb rfl rfl rfl rfl rfl TWLCutReach.u4 ?_
                refine TQ.pickF rfl rfl rfl rfl rfl ?_
                exact TQ.jn (b := (!(r62 == r64))) H (AllF.cons rfl (AllF.cons rfl (AllF.cons rfl (AllF.cons rfl (AllF.cons rfl AllF.nil)))))
            · rintro b66 H
              unfold m_acequialaw04_CutReach_j6 at H
              rcases ite_some H with ⟨g67, H⟩ | ⟨g67, H⟩
              ·
                refine TQ.move rfl rfl rfl rfl ?_
                refine TQ.decB (t := 75) (b' := true) rfl g67 ?_
                refine TQ.shut rfl rfl rfl rfl ?_
                refine TQ.shut rfl rfl rfl rfl ?_
                refine TQ.shut rfl rfl rfl rfl ?_
                refine TQ.shut rfl rfl rfl rfl ?_
                refine TQ.shut rfl rfl rfl rfl ?_
                refine TQ.shut rfl rfl rfl rfl ?_
                refine TQ.shut rfl rfl rfl rfl ?_
                refine TQ.shut rfl rfl rfl rfl ?_
                refine TQ.shut rfl rfl rfl rfl ?_
                refine TQ.tail [54, 55] rfl rfl ?_
                refine TO.shut rfl rfl rfl rfl ?_
                refine TO.pickT rfl rfl rfl rfl rfl ?_
                refine TO.done ?_
                refine X.seq_normal ?_
                refine T.trim (AllF.cons (t := 2) rfl (AllF.cons (t := 5) rfl (AllF.cons (t := 6) rfl (AllF.cons (t := 8) rfl (AllF.cons (t := 86) rfl AllF.nil))))) ?_
                refine T.condT rfl rfl ?_
                refine T.seq ?_
                refine T.regionL (ll := [0]) rfl ?_
                refine TO.assign rfl rfl rfl rfl ?_
                refine TO.done ?_
                refine X.seq_normal ?_
                refine T.ret ?_
                refine X.then_ret ?_
                obtain rfl := ret1 H
                exact X.ret1 rfl rfl rfl rfl (Res.tmp rfl) Pick.nil ⟨rfl, rfl⟩
              ·
                obtain ⟨r68, e69, H⟩ := bd_some H
                obtain ⟨g70, H⟩ := gd_some H
                refine TQ.move rfl rfl rfl rfl ?_
                refine TQ.decB (t := 75) (b' := false) rfl (Bool.eq_false_iff.2 g67) ?_
                refine TQ.loadA rfl rfl rfl rfl TWLCutReach.a24 (List.Mem.tail _ (List.Mem.tail _ (List.Mem.tail _ (List.Mem.head _)))) rfl ?_
                refine TQ.move rfl rfl rfl rfl ?_
                refine TQ.callX TWLCutReach.c41 rfl rfl rfl rfl (fun wc hwc => w_cut_Right (n0 := r3) (s1 := r25) wc (hwc.rs (f := arcC) (s := 3) (xs := r3.Arcs) (j := j8) (fun _ => rfl) (List.Mem.tail _ (List.Mem.tail _ (List.Mem.tail _ (List.Mem.tail _ (List.Mem.head _))))) hn9 hc10 hz12) (hwc.rs (f := boolC) (s := 1) (xs := r25) (j := j31) (fun _ => rfl) (List.Mem.tail _ (List.Mem.head _)) hn32 hc33 hz35) e69) (by rintro _ _ ⟨rfl, rfl⟩; rfl) ?_
                refine TQ.move rfl rfl rfl rfl ?_
                refine TQ.fieldAddr0 rfl rfl rfl rfl TWLCutReach.f24_2 ?_
                refine TQ.load1 rfl rfl rfl rfl TWLCutReach.s3 (List.Mem.tail _ (List.Mem.tail _ (List.Mem.tail _ (List.Mem.head _)))) rfl ?_
                refine TQ.ixV hz35 hc33 hn32 g70 rfl rfl rfl rfl rfl TWLCutReach.l31 TWLCutReach.n4 ?_
                refine TQ.ldBV hz35 hc33 hn32 g70 rfl rfl rfl rfl TWLCutReach.s4 (List.Mem.tail _ (List.Mem.head _)) ?_
                refine TQ.not rfl rfl rfl rfl ?_
                refine TQ.tail [54, 55] rfl rfl ?_
                refine TO.neb rfl rfl rfl rfl rfl TWLCutReach.u4 ?_
                refine TO.pickF rfl rfl rfl rfl rfl ?_
                refine TO.done ?_
                refine X.seq_normal ?_
                refine T.trim (AllF.cons (t := 2) rfl (AllF.cons (t := 5) rfl (AllF.cons (t := 6) rfl (AllF.cons (t := 8) rfl (AllF.cons (t := 86) rfl AllF.nil))))) ?_
                rcases ite_some H with ⟨g71, H⟩ | ⟨g71, H⟩
                ·
                  refine T.condT rfl g71 ?_
                  refine T.seq ?_
                  refine T.regionL (ll := [0]) rfl ?_
                  refine TO.assign rfl rfl rfl rfl ?_
                  refine TO.done ?_
                  refine X.seq_normal ?_
                  refine T.ret ?_
                  refine X.then_ret ?_
                  obtain rfl := ret1 H
                  exact X.ret1 rfl rfl rfl rfl (Res.tmp rfl) Pick.nil ⟨rfl, rfl⟩
                ·
                  refine T.condF rfl (Bool.eq_false_iff.2 g71) ?_
                  refine T.skip ?_
                  refine X.seq_normal ?_
                  refine T.seq ?_
                  refine T.regionL (ll := [0]) rfl ?_
                  refine TO.assign rfl rfl rfl rfl ?_
                  refine TO.done ?_
                  refine X.seq_normal ?_
                  refine T.seq ?_
                  refine T.seq ?_
                  refine T.regionL (ll := [0, 1, 2]) rfl ?_
                  refine TO.move rfl rfl rfl rfl ?_
                  refine TO.lenX (xs := r25) hn32 rfl rfl rfl rfl rfl TWLCutReach.l31 ?_
                  refine TO.move rfl rfl rfl rfl ?_
                  refine TO.done ?_
                  refine X.seq_normal ?_
                  refine T.meetSE1 (fun (both82 : Bool) => m_acequialaw04_CutReach_j8 r3 r14 r25 r37 both82 = some r0) (fun (both82 : Bool) => [(2, .pointer (some ⟨b1, 0, none⟩)), (5, .slice (sb ob16) n17 c18), (6, .slice (sb ob28) n29 c30), (8, .slice (sb ob40) n41 c42), (10, .bool both82)]) (fun (both82 : Bool) => [(some b1, .cells #[.int .i64 r3.N, .int .i64 r3.S, .int .i64 r3.T, .slice (sb ob5) n6 c7] 24 (0, 0)), (ob5, .cells (arr arcC r3.Arcs j8).toArray 28 (0, 0)), (ob16, .cells (arr (intC .i64) r14 j19).toArray 2 (0, 0)), (ob28, .cells (arr boolC r25 j31).toArray 4 (0, 0)), (ob40, .cells (arr boolC r37 j43).toArray 4 (0, 0))]) ?_ ?_
                  ·
                    refine T.block ?_
                    obtain ⟨o_7, e_7, K_7⟩ := bd_some H
                    refine T.loopE3 (fun (m_7 : Nat) (both72 : Bool) (x73 : Int) => loopM (fun s => m_acequialaw04_CutReach_s7 r25 r37 s.1 s.2) m_7 (both72, x73) = some o_7) (fun (m_7 : Nat) (both72 : Bool) (x73 : Int) => [(2, .pointer (some ⟨b1, 0, none⟩)), (5, .slice (sb ob16) n17 c18), (6, .slice (sb ob28) n29 c30), (8, .slice (sb ob40) n41 c42), (10, .bool both72), (88, .int .i64 (r25.length : Int)), (89, .int .i64 x73)]) (fun (m_7 : Nat) (both72 : Bool) (x73 : Int) => [(some b1, .cells #[.int .i64 r3.N, .int .i64 r3.S, .int .i64 r3.T, .slice (sb ob5) n6 c7] 24 (0, 0)), (ob5, .cells (arr arcC r3.Arcs j8).toArray 28 (0, 0)), (ob16, .cells (arr (intC .i64) r14 j19).toArray 2 (0, 0)), (ob28, .cells (arr boolC r25 j31).toArray 4 (0, 0)), (ob40, .cells (arr boolC r37 j43).toArray 4 (0, 0))]) (fun (m_7 : Nat) (both72 : Bool) (x73 : Int) => m_7) FUEL false 0 e_7 (AllF.cons rfl (AllF.cons rfl (AllF.cons rfl (AllF.cons rfl (AllF.cons rfl (AllF.cons rfl (AllF.cons rfl AllF.nil))))))) (Pick.cons (Take.tail (Take.tail (Take.tail (Take.head _ _)))) (Pick.cons (Take.tail (Take.tail (Take.tail (Take.head _ _)))) (Pick.cons (Take.tail (Take.tail (Take.head _ _))) (Pick.cons (Take.tail (Take.head _ _)) (Pick.cons (Take.head _ _) Pick.nil))))) ?_
                    rintro m_7 both72 x73 H
                    obtain ⟨n_7, r_7, rfl, H, C_7⟩ := loopM_some H
                    have H : m_acequialaw04_CutReach_s7 r25 r37 both72 x73 = some r_7 := H
                    unfold m_acequialaw04_CutReach_s7 at H
                    refine T.seq ?_
                    refine T.regionL (ll := [0]) rfl ?_
                    refine TO.bin rfl rfl rfl rfl rfl rfl ?_
                    refine TO.done ?_
                    refine X.seq_normal ?_
                    refine T.seq ?_
                    rcases ite_some H with ⟨g74, H⟩ | ⟨g74, H⟩
                    ·
                      refine T.condPT rfl g74 ?_
                      refine T.skip ?_
                      refine X.seq_normal ?_
                      refine T.seq ?_
                      refine T.block ?_
                      refine T.seq ?_
                      refine T.regionL (ll := [0, 1]) rfl ?_
                      refine TO.move rfl rfl rfl rfl ?_
                      refine TO.assign rfl rfl rfl rfl ?_
                      refine TO.done ?_
                      refine X.seq_normal ?_
                      rcases ite_some H with ⟨g75, H⟩ | ⟨g75, H⟩
                      ·
                        refine T.regionL (ll := [0, 1, 2, 3, 4, 5, 6, 7, 8, 9, 10, 11, 12, 13, 14]) rfl ?_
                        refine TO.move rfl rfl rfl rfl ?_
                        refine TO.move rfl rfl rfl rfl ?_
                        refine TO.decB (t := 93) (b' := true) rfl g75 ?_
                        refine TO.shut rfl rfl rfl rfl ?_
                        refine TO.shut rfl rfl rfl rfl ?_
                        refine TO.shut rfl rfl rfl rfl ?_
                        refine TO.shut rfl rfl rfl rfl ?_
                        refine TO.shut rfl rfl rfl rfl ?_
                        refine TO.shutU rfl rfl rfl rfl ?_
                        refine TO.shutU rfl rfl rfl rfl ?_
                        refine TO.shutU rfl rfl rfl rfl ?_
                        refine TO.shutU rfl rfl rfl rfl ?_
                        refine TO.shutU rfl rfl rfl rfl ?_
                        refine TO.shut rfl rfl rfl rfl ?_
                        refine TO.pickT rfl rfl rfl rfl rfl ?_
                        refine TO.assign rfl rfl rfl rfl ?_
                        refine TO.done ?_
                        refine X.block_normal ?_
                        refine X.seq_normal ?_
                        obtain ⟨g76, H⟩ := gd_some H
                        refine T.regionL (ll := [0, 1]) rfl ?_
                        refine TO.addG g76 rfl rfl rfl rfl rfl ?_
                        refine TO.move rfl rfl rfl rfl ?_
                        refine TO.done ?_
                        have H := loop_next H C_7
                        exact X.againE3 n_7 true (x73 + 1) H (Nat.lt_succ_self _) (AllF.cons rfl (AllF.cons rfl (AllF.cons rfl (AllF.cons rfl (AllF.cons rfl (AllF.cons rfl (AllF.cons rfl AllF.nil))))))) (Pick.cons (Take.head _ _) (Pick.cons (Take.head _ _) (Pick.cons (Take.head _ _) (Pick.cons (Take.head _ _) (Pick.cons (Take.head _ _) Pick.nil)))))
                      ·
                        obtain ⟨g77, H⟩ := gd_some H
                        rcases ite_some H with ⟨g78, H⟩ | ⟨g78, H⟩
                        ·
                          obtain ⟨g79, H⟩ := gd_some H
                          refine T.regionL (ll := [0, 1, 2, 3, 4, 5, 6, 7, 8, 9, 10, 11, 12, 13, 14]) rfl ?_
                          refine TO.move rfl rfl rfl rfl ?_
                          refine TO.move rfl rfl rfl rfl ?_
                          refine TO.decB (t := 93) (b' := false) rfl (Bool.eq_false_iff.2 g75) ?_
                          refine TO.move rfl rfl rfl rfl ?_
                          refine TO.move rfl rfl rfl rfl ?_
                          refine TO.ixV hz35 hc33 hn32 g77 rfl rfl rfl rfl rfl TWLCutReach.l31 TWLCutReach.n4 ?_
                          refine TO.ldBV hz35 hc33 hn32 g77 rfl rfl rfl rfl TWLCutReach.s4 (List.Mem.tail _ (List.Mem.tail _ (List.Mem.tail _ (List.Mem.head _)))) ?_
                          refine TO.move rfl rfl rfl rfl ?_
                          refine TO.decB (t := 98) (b' := true) rfl g78 ?_
                          refine TO.move rfl rfl rfl rfl ?_
                          refine TO.move rfl rfl rfl rfl ?_
                          refine TO.ixV hz47 hc45 hn44 g79 rfl rfl rfl rfl rfl TWLCutReach.l31 TWLCutReach.n4 ?_
                          refine TO.ldBV hz47 hc45 hn44 g79 rfl rfl rfl rfl TWLCutReach.s4 (List.Mem.tail _ (List.Mem.tail _ (List.Mem.tail _ (List.Mem.tail _ (List.Mem.head _))))) ?_
                          refine TO.not rfl rfl rfl rfl ?_
                          refine TO.pickT rfl rfl rfl rfl rfl ?_
                          refine TO.pickF rfl rfl rfl rfl rfl ?_
                          refine TO.assign rfl rfl rfl rfl ?_
                          refine TO.done ?_
                          refine X.block_normal ?_
                          refine X.seq_normal ?_
                          obtain ⟨g80, H⟩ := gd_some H
                          refine T.regionL (ll := [0, 1]) rfl ?_
                          refine TO.addG g80 rfl rfl rfl rfl rfl ?_
                          refine TO.move rfl rfl rfl rfl ?_
                          refine TO.done ?_
                          have H := loop_next H C_7
                          exact X.againE3 n_7 (!(r37.getD x73.toNat false)) (x73 + 1) H (Nat.lt_succ_self _) (AllF.cons rfl (AllF.cons rfl (AllF.cons rfl (AllF.cons rfl (AllF.cons rfl (AllF.cons rfl (AllF.cons rfl AllF.nil))))))) (Pick.cons (Take.head _ _) (Pick.cons (Take.head _ _) (Pick.cons (Take.head _ _) (Pick.cons (Take.head _ _) (Pick.cons (Take.head _ _) Pick.nil)))))
                        ·
                          refine T.regionL (ll := [0, 1, 2, 3, 4, 5, 6, 7, 8, 9, 10, 11, 12, 13, 14]) rfl ?_
                          refine TO.move rfl rfl rfl rfl ?_
                          refine TO.move rfl rfl rfl rfl ?_
                          refine TO.decB (t := 93) (b' := false) rfl (Bool.eq_false_iff.2 g75) ?_
                          refine TO.move rfl rfl rfl rfl ?_
                          refine TO.move rfl rfl rfl rfl ?_
                          refine TO.ixV hz35 hc33 hn32 g77 rfl rfl rfl rfl rfl TWLCutReach.l31 TWLCutReach.n4 ?_
                          refine TO.ldBV hz35 hc33 hn32 g77 rfl rfl rfl rfl TWLCutReach.s4 (List.Mem.tail _ (List.Mem.tail _ (List.Mem.tail _ (List.Mem.head _)))) ?_
                          refine TO.move rfl rfl rfl rfl ?_
                          refine TO.decB (t := 98) (b' := false) rfl (Bool.eq_false_iff.2 g78) ?_
                          refine TO.shut rfl rfl rfl rfl ?_
                          refine TO.shut rfl rfl rfl rfl ?_
                          refine TO.shut rfl rfl rfl rfl ?_
                          refine TO.shut rfl rfl rfl rfl ?_
                          refine TO.shut rfl rfl rfl rfl ?_
                          refine TO.pickF rfl rfl rfl rfl rfl ?_
                          refine TO.pickF rfl rfl rfl rfl rfl ?_
                          refine TO.assign rfl rfl rfl rfl ?_
                          refine TO.done ?_
                          refine X.block_normal ?_
                          refine X.seq_normal ?_
                          obtain ⟨g81, H⟩ := gd_some H
                          refine T.regionL (ll := [0, 1]) rfl ?_
                          refine TO.addG g81 rfl rfl rfl rfl rfl ?_
                          refine TO.move rfl rfl rfl rfl ?_
                          refine TO.done ?_
                          have H := loop_next H C_7
                          exact X.againE3 n_7 false (x73 + 1) H (Nat.lt_succ_self _) (AllF.cons rfl (AllF.cons rfl (AllF.cons rfl (AllF.cons rfl (AllF.cons rfl (AllF.cons rfl (AllF.cons rfl AllF.nil))))))) (Pick.cons (Take.head _ _) (Pick.cons (Take.head _ _) (Pick.cons (Take.head _ _) (Pick.cons (Take.head _ _) (Pick.cons (Take.head _ _) Pick.nil)))))
                    ·
                      refine T.condPF rfl g74 ?_
                      refine T.exit ?_
                      refine X.then_exit ?_
                      have H := loop_exitE H C_7 ▸ K_7
                      refine X.then_exit ?_
                      refine X.block_here ?_
                      exact X.metE1 both72 H (AllF.cons rfl (AllF.cons rfl (AllF.cons rfl (AllF.cons rfl (AllF.cons rfl AllF.nil))))) (Pick.cons (Take.head _ _) (Pick.cons (Take.head _ _) (Pick.cons (Take.head _ _) (Pick.cons (Take.head _ _) (Pick.cons (Take.head _ _) Pick.nil)))))
                  · rintro both82 H
                    unfold m_acequialaw04_CutReach_j8 at H
                    refine T.seq ?_
                    refine T.seq ?_
                    refine T.regionL (ll := [0, 1, 2, 3]) rfl ?_
                    refine TO.fieldAddr0 rfl rfl rfl rfl TWLCutReach.f24_3 ?_
                    refine TO.load1 rfl rfl rfl rfl TWLCutReach.s22 (List.Mem.head _) rfl ?_
                    refine TO.lenX (xs := r3.Arcs) hn9 rfl rfl rfl rfl rfl TWLCutReach.l22 ?_
                    refine TO.move rfl rfl rfl rfl ?_
                    refine TO.done ?_
                    refine X.seq_normal ?_
                    refine T.meetSE1 (fun (u116 : Unit) => m_acequialaw04_CutReach_j15 r3 r25 both82 = some r0) (fun (u116 : Unit) => [(2, .pointer (some ⟨b1, 0, none⟩)), (6, .slice (sb ob28) n29 c30), (10, .bool both82)]) (fun (u116 : Unit) => [(some b1, .cells #[.int .i64 r3.N, .int .i64 r3.S, .int .i64 r3.T, .slice (sb ob5) n6 c7] 24 (0, 0)), (ob5, .cells (arr arcC r3.Arcs j8).toArray 28 (0, 0)), (ob28, .cells (arr boolC r25 j31).toArray 4 (0, 0))]) ?_ ?_
                    ·
                      refine T.block ?_
                      obtain ⟨o_9, e_9, K_9⟩ := bd_some H
                      refine T.loopE2 (fun (m_9 : Nat) (x83 : Int) => loopM (fun s => m_acequialaw04_CutReach_s9 r3 r14 r25 r37 s) m_9 x83 = some o_9) (fun (m_9 : Nat) (x83 : Int) => [(2, .pointer (some ⟨b1, 0, none⟩)), (5, .slice (sb ob16) n17 c18), (6, .slice (sb ob28) n29 c30), (8, .slice (sb ob40) n41 c42), (10, .bool both82), (108, .slice (sb ob5) n6 c7), (109, .int .i64 (r3.Arcs.length : Int)), (110, .int .i64 x83)]) (fun (m_9 : Nat) (x83 : Int) => [(some b1, .cells #[.int .i64 r3.N, .int .i64 r3.S, .int .i64 r3.T, .slice (sb ob5) n6 c7] 24 (0, 0)), (ob5, .cells (arr arcC r3.Arcs j8).toArray 28 (0, 0)), (ob16, .cells (arr (intC .i64) r14 j19).toArray 2 (0, 0)), (ob28, .cells (arr boolC r25 j31).toArray 4 (0, 0)), (ob40, .cells (arr boolC r37 j43).toArray 4 (0, 0))]) (fun (m_9 : Nat) (x83 : Int) => m_9) FUEL 0 e_9 (AllF.cons rfl (AllF.cons rfl (AllF.cons rfl (AllF.cons rfl (AllF.cons rfl (AllF.cons rfl (AllF.cons rfl (AllF.cons rfl AllF.nil)))))))) (Pick.cons (Take.head _ _) (Pick.cons (Take.head _ _) (Pick.cons (Take.head _ _) (Pick.cons (Take.head _ _) (Pick.cons (Take.head _ _) Pick.nil))))) ?_
                      rintro m_9 x83 H
                      obtain ⟨n_9, r_9, rfl, H, C_9⟩ := loopM_some H
                      have H : m_acequialaw04_CutReach_s9 r3 r14 r25 r37 x83 = some r_9 := H
                      unfold m_acequialaw04_CutReach_s9 at H
                      refine T.seq ?_
                      refine T.regionL (ll := [0]) rfl ?_
                      refine TO.bin rfl rfl rfl rfl rfl rfl ?_
                      refine TO.done ?_
                      refine X.seq_normal ?_
                      refine T.seq ?_
                      rcases ite_some H with ⟨g84, H⟩ | ⟨g84, H⟩
                      ·
                        refine T.condPT rfl g84 ?_
                        refine T.skip ?_
                        refine X.seq_normal ?_
                        refine T.seq ?_
                        refine T.block ?_
                        refine T.seq ?_
                        obtain ⟨g85, H⟩ := gd_some H
                        refine T.regionL (ll := [0, 1, 2, 3, 4, 5]) rfl ?_
                        refine TO.move rfl rfl rfl rfl ?_
                        refine TO.ixV hz12 hc10 hn9 g85 rfl rfl rfl rfl rfl TWLCutReach.l22 TWLCutReach.n28 ?_
                        refine TO.ldSV (f := arcC) (cs := [.int .i64 ((r3.Arcs.getD x83.toNat default).fr), .int .i64 ((r3.Arcs.getD x83.toNat default).to), .int .i64 ((r3.Arcs.getD x83.toNat default).cap)]) default (fun _ => rfl) hz12 hc10 hn9 g85 rfl rfl rfl rfl rfl TWLCutReach.a28 (List.Mem.tail _ (List.Mem.head _)) ?_
                        refine TO.allocA rfl rfl rfl TWLCutReach.z28 ?_; intro b86
                        refine TO.assign rfl rfl rfl rfl ?_
                        refine TO.storeA rfl rfl rfl rfl (Take.head _ _) TWLCutReach.n28 rfl rfl rfl ?_
                        refine TO.done ?_
                        refine X.seq_normal ?_
                        refine T.seq ?_
                        obtain ⟨g88, H⟩ := gd_some H
                        refine T.drawS 68 [0, 1, 2, 3, 4, 5, 6, 7, 8, 9, 10, 11, 12, 13, 14, 15, 16, 17, 18, 19, 20, 21, 22, 23, 24, 25, 26, 27, 28, 29, 30, 31, 32, 33, 34, 35, 36, 37, 38, 39, 40, 41, 42, 43, 44, 45, 46, 47, 48, 49, 50, 51, 52, 53, 54, 55, 56, 57, 58, 59, 60, 61, 62, 63, 64, 65, 66, 67] rfl mixed (by kernel_rfl) (by kernel_rfl) rfl (by kernel_rfl) ?_
                        refine TQ.move rfl rfl rfl rfl ?_
                        refine TQ.move rfl rfl rfl rfl ?_
                        refine TQ.ixV hz23 hc21 hn20 g88 rfl rfl rfl rfl rfl TWLCutReach.l25 TWLCutReach.n2 ?_
                        refine TQ.ldIV hz23 hc21 hn20 g88 rfl rfl rfl rfl TWLCutReach.s2 (List.Mem.tail _ (List.Mem.tail _ (List.Mem.tail _ (List.Mem.head _)))) ?_
                        refine TQ.fieldAddr0 rfl rfl rfl rfl TWLCutReach.f28_2 ?_
                        refine TQ.load1 rfl rfl rfl rfl TWLCutReach.s2 (List.Mem.head _) rfl ?_
                        refine TQ.bin rfl rfl rfl rfl rfl rfl ?_
                        refine TQ.move rfl rfl rfl rfl ?_
                        refine TQ.join [8, 9, 10, 11, 12, 13, 14, 15, 16, 17, 18, 19, 20, 21, 22, 23, 24, 25, 26, 27, 28, 29, 30, 31, 32, 33, 34, 35, 36] [37, 38, 39, 40, 41, 42, 43, 44, 45, 46, 47, 48, 49, 50, 51, 52, 53, 54, 55, 56, 57, 58, 59, 60, 61, 62, 63, 64, 65, 66, 67] rfl 151 (fun b100 => m_acequialaw04_CutReach_j13 r3 r14 r25 r37 x83 b100 = some r_9) [(2, .pointer (some ⟨b1, 0, none⟩)), (5, .slice (sb ob16) n17 c18), (6, .slice (sb ob28) n29 c30), (8, .slice (sb ob40) n41 c42), (10, .bool both82), (108, .slice (sb ob5) n6 c7), (109, .int .i64 (r3.Arcs.length : Int)), (110, .int .i64 x83), (13, .pointer (some ⟨b86, 0, none⟩)), (12, .int .i64 x83)] ?_ ?_
                        ·
                          rcases ite_some H with ⟨g89, H⟩ | ⟨g89, H⟩
                          ·
                            obtain ⟨g90, H⟩ := gd_some H
                            refine TQ.decB (t := 122) (b' := true) rfl (decide_eq_true g89) ?_
                            refine TQ.move rfl rfl rfl rfl ?_
                            refine TQ.fieldAddr0 rfl rfl rfl rfl TWLCutReach.f28_0 ?_
                            refine TQ.load1 rfl rfl rfl rfl TWLCutReach.s3 (List.Mem.head _) rfl ?_
                            refine TQ.ixV hz35 hc33 hn32 g90 rfl rfl rfl rfl rfl TWLCutReach.l31 TWLCutReach.n4 ?_
                            refine TQ.ldBV hz35 hc33 hn32 g90 rfl rfl rfl rfl TWLCutReach.s4 (List.Mem.tail _ (List.Mem.tail _ (List.Mem.tail _ (List.Mem.tail _ (List.Mem.head _))))) ?_
                            refine TQ.move rfl rfl rfl rfl ?_
                            refine TQ.join [14, 15, 16, 17, 18, 19, 20] [21, 22, 23, 24, 25, 26, 27, 28, 29, 30, 31, 32, 33, 34, 35, 36] rfl 135 (fun b93 => m_acequialaw04_CutReach_j10 r3 r14 r25 r37 x83 b93 = some r_9) [(2, .pointer (some ⟨b1, 0, none⟩)), (5, .slice (sb ob16) n17 c18), (6, .slice (sb ob28) n29 c30), (8, .slice (sb ob40) n41 c42), (10, .bool both82), (108, .slice (sb ob5) n6 c7), (109, .int .i64 (r3.Arcs.length : Int)), (110, .int .i64 x83), (111, .bool (decide (x83 < (r3.Arcs.length : Int)))), (112, .int .i64 x83), (114, .agg #[.int .i64 ((r3.Arcs.getD x83.toNat default).fr), .int .i64 ((r3.Arcs.getD x83.toNat default).to), .int .i64 ((r3.Arcs.getD x83.toNat default).cap)]), (13, .pointer (some ⟨b86, 0, none⟩)), (12, .int .i64 x83), (115, .slice (sb ob16) n17 c18), (116, .int .i64 x83), (118, .int .i64 (r14.getD x83.toNat 0)), (119, .pointer (some ⟨b86, 2, none⟩)), (120, .int .i64 ((r3.Arcs.getD x83.toNat default).cap)), (121, .bool (decide ((r14.getD x83.toNat 0) < ((r3.Arcs.getD x83.toNat default).cap)))), (122, .bool true), (123, .slice (sb ob28) n29 c30), (124, .pointer (some ⟨b86, 0, none⟩)), (125, .int .i64 ((r3.Arcs.getD x83.toNat default).fr)), (127, .bool (r25.getD ((r3.Arcs.getD x83.toNat default).fr).toNat false))] ?_ ?_
                            ·
                              rcases ite_some H with ⟨g91, H⟩ | ⟨g91, H⟩
                              ·
                                obtain ⟨g92, H⟩ := gd_some H
                                refine TQ.decB (t := 128) (b' := true) rfl g91 ?_
                                refine TQ.move rfl rfl rfl rfl ?_
                                refine TQ.fieldAddr0 rfl rfl rfl rfl TWLCutReach.f28_1 ?_
                                refine TQ.load1 rfl rfl rfl rfl TWLCutReach.s3 (List.Mem.head _) rfl ?_
                                refine TQ.ixV hz35 hc33 hn32 g92 rfl rfl rfl rfl rfl TWLCutReach.l31 TWLCutReach.n4 ?_
                                refine TQ.ldBV hz35 hc33 hn32 g92 rfl rfl rfl rfl TWLCutReach.s4 (List.Mem.tail _ (List.Mem.tail _ (List.Mem.tail _ (List.Mem.tail _ (List.Mem.head _))))) ?_
                                refine TQ.not rfl rfl rfl rfl ?_
                                refine TQ.pickT rfl rfl rfl rfl rfl ?_
                                exact TQ.jn (b := (!(r25.getD ((r3.Arcs.getD x83.toNat default).to).toNat false))) H (AllF.cons rfl (AllF.cons rfl (AllF.cons rfl (AllF.cons rfl (AllF.cons rfl (AllF.cons rfl (AllF.cons rfl (AllF.cons rfl (AllF.cons rfl (AllF.cons rfl (AllF.cons rfl (AllF.cons rfl (AllF.cons rfl (AllF.cons rfl (AllF.cons rfl (AllF.cons rfl (AllF.cons rfl (AllF.cons rfl (AllF.cons rfl (AllF.cons rfl (AllF.cons rfl (AllF.cons rfl (AllF.cons rfl (AllF.cons rfl (AllF.cons rfl AllF.nil)))))))))))))))))))))))))
                              ·
                                refine TQ.decB (t := 128) (b' := false) rfl (Bool.eq_false_iff.2 g91) ?_
                                refine TQ.shut rfl rfl rfl rfl ?_
                                refine TQ.shut rfl rfl rfl rfl ?_
                                refine TQ.shut rfl rfl rfl rfl ?_
                                refine TQ.shut rfl rfl rfl rfl ?_
                                refine TQ.shut rfl rfl rfl rfl ?_
                                refine TQ.shut rfl rfl rfl rfl ?_
                                refine TQ.pickF rfl rfl rfl rfl rfl ?_
                                exact TQ.jn (b := false) H (AllF.cons rfl (AllF.cons rfl (AllF.cons rfl (AllF.cons rfl (AllF.cons rfl (AllF.cons rfl (AllF.cons rfl (AllF.cons rfl (AllF.cons rfl (AllF.cons rfl (AllF.cons rfl (AllF.cons rfl (AllF.cons rfl (AllF.cons rfl (AllF.cons rfl (AllF.cons rfl (AllF.cons rfl (AllF.cons rfl (AllF.cons rfl (AllF.cons rfl (AllF.cons rfl (AllF.cons rfl (AllF.cons rfl (AllF.cons rfl (AllF.cons rfl AllF.nil)))))))))))))))))))))))))
                            · rintro b93 H
                              unfold m_acequialaw04_CutReach_j10 at H
                              refine TQ.move rfl rfl rfl rfl ?_
                              refine TQ.join [22, 23, 24, 25, 26, 27, 28, 29, 30, 31, 32, 33, 34, 35] [36] rfl 150 (fun b99 => m_acequialaw04_CutReach_j12 r3 r14 r25 r37 x83 b99 = some r_9) [(2, .pointer (some ⟨b1, 0, none⟩)), (5, .slice (sb ob16) n17 c18), (6, .slice (sb ob28) n29 c30), (8, .slice (sb ob40) n41 c42), (10, .bool both82), (108, .slice (sb ob5) n6 c7), (109, .int .i64 (r3.Arcs.length : Int)), (110, .int .i64 x83), (111, .bool (decide (x83 < (r3.Arcs.length : Int)))), (112, .int .i64 x83), (114, .agg #[.int .i64 ((r3.Arcs.getD x83.toNat default).fr), .int .i64 ((r3.Arcs.getD x83.toNat default).to), .int .i64 ((r3.Arcs.getD x83.toNat default).cap)]), (13, .pointer (some ⟨b86, 0, none⟩)), (12, .int .i64 x83), (115, .slice (sb ob16) n17 c18), (116, .int .i64 x83), (118, .int .i64 (r14.getD x83.toNat 0)), (119, .pointer (some ⟨b86, 2, none⟩)), (120, .int .i64 ((r3.Arcs.getD x83.toNat default).cap)), (121, .bool (decide ((r14.getD x83.toNat 0) < ((r3.Arcs.getD x83.toNat default).cap)))), (122, .bool true), (123, .slice (sb ob28) n29 c30), (124, .pointer (some ⟨b86, 0, none⟩)), (125, .int .i64 ((r3.Arcs.getD x83.toNat default).fr)), (127, .bool (r25.getD ((r3.Arcs.getD x83.toNat default).fr).toNat false)), (135, .bool b93)] ?_ ?_
                              ·
                                rcases ite_some H with ⟨g94, H⟩ | ⟨g94, H⟩
                                ·
                                  refine TQ.decB (t := 136) (b' := true) rfl g94 ?_
                                  refine TQ.shut rfl rfl rfl rfl ?_
                                  refine TQ.shut rfl rfl rfl rfl ?_
                                  refine TQ.shut rfl rfl rfl rfl ?_
                                  refine TQ.shut rfl rfl rfl rfl ?_
                                  refine TQ.shut rfl rfl rfl rfl ?_
                                  refine TQ.shut rfl rfl rfl rfl ?_
                                  refine TQ.shut rfl rfl rfl rfl ?_
                                  refine TQ.shutU rfl rfl rfl rfl ?_
                                  refine TQ.shutU rfl rfl rfl rfl ?_
                                  refine TQ.shutU rfl rfl rfl rfl ?_
                                  refine TQ.shutU rfl rfl rfl rfl ?_
                                  refine TQ.shutU rfl rfl rfl rfl ?_
                                  refine TQ.shut rfl rfl rfl rfl ?_
                                  refine TQ.pickT rfl rfl rfl rfl rfl ?_
                                  exact TQ.jn (b := true) H (AllF.cons rfl (AllF.cons rfl (AllF.cons rfl (AllF.cons rfl (AllF.cons rfl (AllF.cons rfl (AllF.cons rfl (AllF.cons rfl (AllF.cons rfl (AllF.cons rfl (AllF.cons rfl (AllF.cons rfl (AllF.cons rfl (AllF.cons rfl (AllF.cons rfl (AllF.cons rfl (AllF.cons rfl (AllF.cons rfl (AllF.cons rfl (AllF.cons rfl (AllF.cons rfl (AllF.cons rfl (AllF.cons rfl (AllF.cons rfl (AllF.cons rfl (AllF.cons rfl AllF.nil))))))))))))))))))))))))))
                                ·
                                  obtain ⟨g95, H⟩ := gd_some H
                                  refine TQ.decB (t := 136) (b' := false) rfl (Bool.eq_false_iff.2 g94) ?_
                                  refine TQ.move rfl rfl rfl rfl ?_
                                  refine TQ.fieldAddr0 rfl rfl rfl rfl TWLCutReach.f28_1 ?_
                                  refine TQ.load1 rfl rfl rfl rfl TWLCutReach.s3 (List.Mem.head _) rfl ?_
                                  refine TQ.ixV hz47 hc45 hn44 g95 rfl rfl rfl rfl rfl TWLCutReach.l31 TWLCutReach.n4 ?_
                                  refine TQ.ldBV hz47 hc45 hn44 g95 rfl rfl rfl rfl TWLCutReach.s4 (List.Mem.tail _ (List.Mem.tail _ (List.Mem.tail _ (List.Mem.tail _ (List.Mem.tail _ (List.Mem.head _)))))) ?_
                                  refine TQ.not rfl rfl rfl rfl ?_
                                  refine TQ.move rfl rfl rfl rfl ?_
                                  refine TQ.join [29, 30, 31, 32, 33, 34] [35] rfl 149 (fun b98 => m_acequialaw04_CutReach_j11 r3 r14 r25 r37 x83 b98 = some r_9) [(2, .pointer (some ⟨b1, 0, none⟩)), (5, .slice (sb ob16) n17 c18), (6, .slice (sb ob28) n29 c30), (8, .slice (sb ob40) n41 c42), (10, .bool both82), (108, .slice (sb ob5) n6 c7), (109, .int .i64 (r3.Arcs.length : Int)), (110, .int .i64 x83), (111, .bool (decide (x83 < (r3.Arcs.length : Int)))), (112, .int .i64 x83), (114, .agg #[.int .i64 ((r3.Arcs.getD x83.toNat default).fr), .int .i64 ((r3.Arcs.getD x83.toNat default).to), .int .i64 ((r3.Arcs.getD x83.toNat default).cap)]), (13, .pointer (some ⟨b86, 0, none⟩)), (12, .int .i64 x83), (115, .slice (sb ob16) n17 c18), (116, .int .i64 x83), (118, .int .i64 (r14.getD x83.toNat 0)), (119, .pointer (some ⟨b86, 2, none⟩)), (120, .int .i64 ((r3.Arcs.getD x83.toNat default).cap)), (121, .bool (decide ((r14.getD x83.toNat 0) < ((r3.Arcs.getD x83.toNat default).cap)))), (122, .bool true), (123, .slice (sb ob28) n29 c30), (124, .pointer (some ⟨b86, 0, none⟩)), (125, .int .i64 ((r3.Arcs.getD x83.toNat default).fr)), (127, .bool (r25.getD ((r3.Arcs.getD x83.toNat default).fr).toNat false)), (135, .bool b93), (136, .bool false), (137, .slice (sb ob40) n41 c42), (138, .pointer (some ⟨b86, 1, none⟩)), (139, .int .i64 ((r3.Arcs.getD x83.toNat default).to)), (141, .bool (r37.getD ((r3.Arcs.getD x83.toNat default).to).toNat false)), (142, .bool (!(r37.getD ((r3.Arcs.getD x83.toNat default).to).toNat false)))] ?_ ?_
                                  ·
                                    rcases ite_some H with ⟨g96, H⟩ | ⟨g96, H⟩
                                    ·
                                      obtain ⟨g97, H⟩ := gd_some H
                                      refine TQ.decB (t := 143) (b' := true) rfl g96 ?_
                                      refine TQ.move rfl rfl rfl rfl ?_
                                      refine TQ.fieldAddr0 rfl rfl rfl rfl TWLCutReach.f28_0 ?_
                                      refine TQ.load1 rfl rfl rfl rfl TWLCutReach.s3 (List.Mem.head _) rfl ?_
                                      refine TQ.ixV hz47 hc45 hn44 g97 rfl rfl rfl rfl rfl TWLCutReach.l31 TWLCutReach.n4 ?_
                                      refine TQ.ldBV hz47 hc45 hn44 g97 rfl rfl rfl rfl TWLCutReach.s4 (List.Mem.tail _ (List.Mem.tail _ (List.Mem.tail _ (List.Mem.tail _ (List.Mem.tail _ (List.Mem.head _)))))) ?_
                                      refine TQ.pickT rfl rfl rfl rfl rfl ?_
                                      exact TQ.jn (b := (r37.getD ((r3.Arcs.getD x83.toNat default).fr).toNat false)) H (AllF.cons rfl (AllF.cons rfl (AllF.cons rfl (AllF.cons rfl (AllF.cons rfl (AllF.cons rfl (AllF.cons rfl (AllF.cons rfl (AllF.cons rfl (AllF.cons rfl (AllF.cons rfl (AllF.cons rfl (AllF.cons rfl (AllF.cons rfl (AllF.cons rfl (AllF.cons rfl (AllF.cons rfl (AllF.cons rfl (AllF.cons rfl (AllF.cons rfl (AllF.cons rfl (AllF.cons rfl (AllF.cons rfl (AllF.cons rfl (AllF.cons rfl (AllF.cons rfl (AllF.cons rfl (AllF.cons rfl (AllF.cons rfl (AllF.cons rfl (AllF.cons rfl (AllF.cons rfl AllF.nil))))))))))))))))))))))))))))))))
                                    ·
                                      refine TQ.decB (t := 143) (b' := false) rfl (Bool.eq_false_iff.2 g96) ?_
                                      refine TQ.shut rfl rfl rfl rfl ?_
                                      refine TQ.shut rfl rfl rfl rfl ?_
                                      refine TQ.shut rfl rfl rfl rfl ?_
                                      refine TQ.shut rfl rfl rfl rfl ?_
                                      refine TQ.shut rfl rfl rfl rfl ?_
                                      refine TQ.pickF rfl rfl rfl rfl rfl ?_
                                      exact TQ.jn (b := false) H (AllF.cons rfl (AllF.cons rfl (AllF.cons rfl (AllF.cons rfl (AllF.cons rfl (AllF.cons rfl (AllF.cons rfl (AllF.cons rfl (AllF.cons rfl (AllF.cons rfl (AllF.cons rfl (AllF.cons rfl (AllF.cons rfl (AllF.cons rfl (AllF.cons rfl (AllF.cons rfl (AllF.cons rfl (AllF.cons rfl (AllF.cons rfl (AllF.cons rfl (AllF.cons rfl (AllF.cons rfl (AllF.cons rfl (AllF.cons rfl (AllF.cons rfl (AllF.cons rfl (AllF.cons rfl (AllF.cons rfl (AllF.cons rfl (AllF.cons rfl (AllF.cons rfl (AllF.cons rfl AllF.nil))))))))))))))))))))))))))))))))
                                  · rintro b98 H
                                    unfold m_acequialaw04_CutReach_j11 at H
                                    refine TQ.pickF rfl rfl rfl rfl rfl ?_
                                    exact TQ.jn (b := b98) H (AllF.cons rfl (AllF.cons rfl (AllF.cons rfl (AllF.cons rfl (AllF.cons rfl (AllF.cons rfl (AllF.cons rfl (AllF.cons rfl (AllF.cons rfl (AllF.cons rfl (AllF.cons rfl (AllF.cons rfl (AllF.cons rfl (AllF.cons rfl (AllF.cons rfl (AllF.cons rfl (AllF.cons rfl (AllF.cons rfl (AllF.cons rfl (AllF.cons rfl (AllF.cons rfl (AllF.cons rfl (AllF.cons rfl (AllF.cons rfl (AllF.cons rfl (AllF.cons rfl AllF.nil))))))))))))))))))))))))))
                              · rintro b99 H
                                unfold m_acequialaw04_CutReach_j12 at H
                                refine TQ.pickT rfl rfl rfl rfl rfl ?_
                                exact TQ.jn (b := b99) H (AllF.cons rfl (AllF.cons rfl (AllF.cons rfl (AllF.cons rfl (AllF.cons rfl (AllF.cons rfl (AllF.cons rfl (AllF.cons rfl (AllF.cons rfl (AllF.cons rfl (AllF.cons rfl AllF.nil)))))))))))
                          ·
                            refine TQ.decB (t := 122) (b' := false) rfl (decide_eq_false g89) ?_
                            refine TQ.shut rfl rfl rfl rfl ?_
                            refine TQ.shut rfl rfl rfl rfl ?_
                            refine TQ.shut rfl rfl rfl rfl ?_
                            refine TQ.shut rfl rfl rfl rfl ?_
                            refine TQ.shut rfl rfl rfl rfl ?_
                            refine TQ.shut rfl rfl rfl rfl ?_
                            refine TQ.shutU rfl rfl rfl rfl ?_
                            refine TQ.shutU rfl rfl rfl rfl ?_
                            refine TQ.shutU rfl rfl rfl rfl ?_
                            refine TQ.shutU rfl rfl rfl rfl ?_
                            refine TQ.shutU rfl rfl rfl rfl ?_
                            refine TQ.shutU rfl rfl rfl rfl ?_
                            refine TQ.shut rfl rfl rfl rfl ?_
                            refine TQ.shut rfl rfl rfl rfl ?_
                            refine TQ.shutU rfl rfl rfl rfl ?_
                            refine TQ.shutU rfl rfl rfl rfl ?_
                            refine TQ.shutU rfl rfl rfl rfl ?_
                            refine TQ.shutU rfl rfl rfl rfl ?_
                            refine TQ.shutU rfl rfl rfl rfl ?_
                            refine TQ.shutU rfl rfl rfl rfl ?_
                            refine TQ.shutU rfl rfl rfl rfl ?_
                            refine TQ.shutU rfl rfl rfl rfl ?_
                            refine TQ.shutU rfl rfl rfl rfl ?_
                            refine TQ.shutU rfl rfl rfl rfl ?_
                            refine TQ.shutU rfl rfl rfl rfl ?_
                            refine TQ.shutU rfl rfl rfl rfl ?_
                            refine TQ.shutU rfl rfl rfl rfl ?_
                            refine TQ.shut rfl rfl rfl rfl ?_
                            refine TQ.pickF rfl rfl rfl rfl rfl ?_
                            exact TQ.jn (b := false) H (AllF.cons rfl (AllF.cons rfl (AllF.cons rfl (AllF.cons rfl (AllF.cons rfl (AllF.cons rfl (AllF.cons rfl (AllF.cons rfl (AllF.cons rfl (AllF.cons rfl (AllF.cons rfl AllF.nil)))))))))))
                        · rintro b100 H
                          unfold m_acequialaw04_CutReach_j13 at H
                          rcases ite_some H with ⟨g101, H⟩ | ⟨g101, H⟩
                          ·
                            refine TQ.move rfl rfl rfl rfl ?_
                            refine TQ.decB (t := 152) (b' := true) rfl g101 ?_
                            refine TQ.shut rfl rfl rfl rfl ?_
                            refine TQ.shut rfl rfl rfl rfl ?_
                            refine TQ.shut rfl rfl rfl rfl ?_
                            refine TQ.shut rfl rfl rfl rfl ?_
                            refine TQ.shut rfl rfl rfl rfl ?_
                            refine TQ.shut rfl rfl rfl rfl ?_
                            refine TQ.shutU rfl rfl rfl rfl ?_
                            refine TQ.shutU rfl rfl rfl rfl ?_
                            refine TQ.shutU rfl rfl rfl rfl ?_
                            refine TQ.shutU rfl rfl rfl rfl ?_
                            refine TQ.shutU rfl rfl rfl rfl ?_
                            refine TQ.shutU rfl rfl rfl rfl ?_
                            refine TQ.shutU rfl rfl rfl rfl ?_
                            refine TQ.shutU rfl rfl rfl rfl ?_
                            refine TQ.shutU rfl rfl rfl rfl ?_
                            refine TQ.shutU rfl rfl rfl rfl ?_
                            refine TQ.shutU rfl rfl rfl rfl ?_
                            refine TQ.shutU rfl rfl rfl rfl ?_
                            refine TQ.shutU rfl rfl rfl rfl ?_
                            refine TQ.shutU rfl rfl rfl rfl ?_
                            refine TQ.shutU rfl rfl rfl rfl ?_
                            refine TQ.shutU rfl rfl rfl rfl ?_
                            refine TQ.shutU rfl rfl rfl rfl ?_
                            refine TQ.shutU rfl rfl rfl rfl ?_
                            refine TQ.shutU rfl rfl rfl rfl ?_
                            refine TQ.shutU rfl rfl rfl rfl ?_
                            refine TQ.shutU rfl rfl rfl rfl ?_
                            refine TQ.shutU rfl rfl rfl rfl ?_
                            refine TQ.shutU rfl rfl rfl rfl ?_
                            refine TQ.shutU rfl rfl rfl rfl ?_
                            refine TQ.tail [68, 69, 70, 71, 72, 73] rfl rfl ?_
                            refine TO.shutU rfl rfl rfl rfl ?_
                            refine TO.shutU rfl rfl rfl rfl ?_
                            refine TO.shutU rfl rfl rfl rfl ?_
                            refine TO.shutU rfl rfl rfl rfl ?_
                            refine TO.shut rfl rfl rfl rfl ?_
                            refine TO.pickT rfl rfl rfl rfl rfl ?_
                            refine TO.done ?_
                            refine X.seq_normal ?_
                            refine T.condT rfl rfl ?_
                            refine T.seq ?_
                            refine T.regionL (ll := [0]) rfl ?_
                            refine TO.assign rfl rfl rfl rfl ?_
                            refine TO.done ?_
                            refine X.seq_normal ?_
                            refine T.trim (AllF.cons (t := 4) rfl AllF.nil) ?_
                            refine T.ret ?_
                            refine X.block_ret ?_
                            refine X.then_ret ?_
                            have H := loop_exitE H C_9 ▸ K_9
                            refine X.then_ret ?_
                            refine X.block_ret ?_
                            refine X.then_ret ?_
                            obtain rfl := ret1 H
                            exact X.ret1 rfl rfl rfl rfl (Res.tmp rfl) Pick.nil ⟨rfl, rfl⟩
                          ·
                            obtain ⟨g102, H⟩ := gd_some H
                            rcases ite_some H with ⟨g103, H⟩ | ⟨g103, H⟩
                            ·
                              obtain ⟨g104, H⟩ := gd_some H
                              refine TQ.move rfl rfl rfl rfl ?_
                              refine TQ.decB (t := 152) (b' := false) rfl (Bool.eq_false_iff.2 g101) ?_
                              refine TQ.move rfl rfl rfl rfl ?_
                              refine TQ.move rfl rfl rfl rfl ?_
                              refine TQ.ixV hz23 hc21 hn20 g102 rfl rfl rfl rfl rfl TWLCutReach.l25 TWLCutReach.n2 ?_
                              refine TQ.ldIV hz23 hc21 hn20 g102 rfl rfl rfl rfl TWLCutReach.s2 (List.Mem.tail _ (List.Mem.tail _ (List.Mem.tail _ (List.Mem.head _)))) ?_
                              refine TQ.bin rfl rfl rfl rfl rfl rfl ?_
                              refine TQ.move rfl rfl rfl rfl ?_
                              refine TQ.decB (t := 158) (b' := true) rfl (decide_eq_true g103) ?_
                              refine TQ.move rfl rfl rfl rfl ?_
                              refine TQ.fieldAddr0 rfl rfl rfl rfl TWLCutReach.f28_1 ?_
                              refine TQ.load1 rfl rfl rfl rfl TWLCutReach.s3 (List.Mem.head _) rfl ?_
                              refine TQ.ixV hz35 hc33 hn32 g104 rfl rfl rfl rfl rfl TWLCutReach.l31 TWLCutReach.n4 ?_
                              refine TQ.ldBV hz35 hc33 hn32 g104 rfl rfl rfl rfl TWLCutReach.s4 (List.Mem.tail _ (List.Mem.tail _ (List.Mem.tail _ (List.Mem.tail _ (List.Mem.head _))))) ?_
                              refine TQ.move rfl rfl rfl rfl ?_
                              refine TQ.join [50, 51, 52, 53, 54, 55, 56] [57, 58, 59, 60, 61, 62, 63, 64, 65, 66, 67] rfl 171 (fun b107 => m_acequialaw04_CutReach_j14 r3 r37 x83 b107 = some r_9) [(2, .pointer (some ⟨b1, 0, none⟩)), (5, .slice (sb ob16) n17 c18), (6, .slice (sb ob28) n29 c30), (8, .slice (sb ob40) n41 c42), (10, .bool both82), (108, .slice (sb ob5) n6 c7), (109, .int .i64 (r3.Arcs.length : Int)), (110, .int .i64 x83), (13, .pointer (some ⟨b86, 0, none⟩)), (152, .bool false), (153, .slice (sb ob16) n17 c18), (154, .int .i64 x83), (156, .int .i64 (r14.getD x83.toNat 0)), (157, .bool (decide (0 < (r14.getD x83.toNat 0)))), (158, .bool true), (159, .slice (sb ob28) n29 c30), (160, .pointer (some ⟨b86, 1, none⟩)), (161, .int .i64 ((r3.Arcs.getD x83.toNat default).to)), (163, .bool (r25.getD ((r3.Arcs.getD x83.toNat default).to).toNat false))] ?_ ?_
                              ·
                                rcases ite_some H with ⟨g105, H⟩ | ⟨g105, H⟩
                                ·
                                  obtain ⟨g106, H⟩ := gd_some H
                                  refine TQ.decB (t := 164) (b' := true) rfl g105 ?_
                                  refine TQ.move rfl rfl rfl rfl ?_
                                  refine TQ.fieldAddr0 rfl rfl rfl rfl TWLCutReach.f28_0 ?_
                                  refine TQ.load1 rfl rfl rfl rfl TWLCutReach.s3 (List.Mem.head _) rfl ?_
                                  refine TQ.ixV hz35 hc33 hn32 g106 rfl rfl rfl rfl rfl TWLCutReach.l31 TWLCutReach.n4 ?_
                                  refine TQ.ldBV hz35 hc33 hn32 g106 rfl rfl rfl rfl TWLCutReach.s4 (List.Mem.tail _ (List.Mem.tail _ (List.Mem.tail _ (List.Mem.tail _ (List.Mem.head _))))) ?_
                                  refine TQ.not rfl rfl rfl rfl ?_
                                  refine TQ.pickT rfl rfl rfl rfl rfl ?_
                                  exact TQ.jn (b := (!(r25.getD ((r3.Arcs.getD x83.toNat default).fr).toNat false))) H (AllF.cons rfl (AllF.cons rfl (AllF.cons rfl (AllF.cons rfl (AllF.cons rfl (AllF.cons rfl (AllF.cons rfl (AllF.cons rfl (AllF.cons rfl (AllF.cons rfl (AllF.cons rfl (AllF.cons rfl (AllF.cons rfl (AllF.cons rfl (AllF.cons rfl (AllF.cons rfl (AllF.cons rfl (AllF.cons rfl (AllF.cons rfl (AllF.cons rfl AllF.nil))))))))))))))))))))
                                ·
                                  refine TQ.decB (t := 164) (b' := false) rfl (Bool.eq_false_iff.2 g105) ?_
                                  refine TQ.shut rfl rfl rfl rfl ?_
                                  refine TQ.shut rfl rfl rfl rfl ?_
                                  refine TQ.shut rfl rfl rfl rfl ?_
                                  refine TQ.shut rfl rfl rfl rfl ?_
                                  refine TQ.shut rfl rfl rfl rfl ?_
                                  refine TQ.shut rfl rfl rfl rfl ?_
                                  refine TQ.pickF rfl rfl rfl rfl rfl ?_
                                  exact TQ.jn (b := false) H (AllF.cons rfl (AllF.cons rfl (AllF.cons rfl (AllF.cons rfl (AllF.cons rfl (AllF.cons rfl (AllF.cons rfl (AllF.cons rfl (AllF.cons rfl (AllF.cons rfl (AllF.cons rfl (AllF.cons rfl (AllF.cons rfl (AllF.cons rfl (AllF.cons rfl (AllF.cons rfl (AllF.cons rfl (AllF.cons rfl (AllF.cons rfl (AllF.cons rfl AllF.nil))))))))))))))))))))
                              · rintro b107 H
                                unfold m_acequialaw04_CutReach_j14 at H
                                rcases ite_some H with ⟨g108, H⟩ | ⟨g108, H⟩
                                ·
                                  refine TQ.move rfl rfl rfl rfl ?_
                                  refine TQ.decB (t := 172) (b' := true) rfl g108 ?_
                                  refine TQ.shut rfl rfl rfl rfl ?_
                                  refine TQ.shut rfl rfl rfl rfl ?_
                                  refine TQ.shut rfl rfl rfl rfl ?_
                                  refine TQ.shut rfl rfl rfl rfl ?_
                                  refine TQ.shut rfl rfl rfl rfl ?_
                                  refine TQ.shut rfl rfl rfl rfl ?_
                                  refine TQ.shut rfl rfl rfl rfl ?_
                                  refine TQ.shutU rfl rfl rfl rfl ?_
                                  refine TQ.shutU rfl rfl rfl rfl ?_
                                  refine TQ.shutU rfl rfl rfl rfl ?_
                                  refine TQ.tail [68, 69, 70, 71, 72, 73] rfl rfl ?_
                                  refine TO.shutU rfl rfl rfl rfl ?_
                                  refine TO.shutU rfl rfl rfl rfl ?_
                                  refine TO.shut rfl rfl rfl rfl ?_
                                  refine TO.pickT rfl rfl rfl rfl rfl ?_
                                  refine TO.pickT rfl rfl rfl rfl rfl ?_
                                  refine TO.pickF rfl rfl rfl rfl rfl ?_
                                  refine TO.done ?_
                                  refine X.seq_normal ?_
                                  refine T.condT rfl rfl ?_
                                  refine T.seq ?_
                                  refine T.regionL (ll := [0]) rfl ?_
                                  refine TO.assign rfl rfl rfl rfl ?_
                                  refine TO.done ?_
                                  refine X.seq_normal ?_
                                  refine T.trim (AllF.cons (t := 4) rfl AllF.nil) ?_
                                  refine T.ret ?_
                                  refine X.block_ret ?_
                                  refine X.then_ret ?_
                                  have H := loop_exitE H C_9 ▸ K_9
                                  refine X.then_ret ?_
                                  refine X.block_ret ?_
                                  refine X.then_ret ?_
                                  obtain rfl := ret1 H
                                  exact X.ret1 rfl rfl rfl rfl (Res.tmp rfl) Pick.nil ⟨rfl, rfl⟩
                                ·
                                  obtain ⟨g109, H⟩ := gd_some H
                                  rcases ite_some H with ⟨g110, H⟩ | ⟨g110, H⟩
                                  ·
                                    obtain ⟨g111, H⟩ := gd_some H
                                    refine TQ.move rfl rfl rfl rfl ?_
                                    refine TQ.decB (t := 172) (b' := false) rfl (Bool.eq_false_iff.2 g108) ?_
                                    refine TQ.move rfl rfl rfl rfl ?_
                                    refine TQ.fieldAddr0 rfl rfl rfl rfl TWLCutReach.f28_0 ?_
                                    refine TQ.load1 rfl rfl rfl rfl TWLCutReach.s3 (List.Mem.head _) rfl ?_
                                    refine TQ.ixV hz47 hc45 hn44 g109 rfl rfl rfl rfl rfl TWLCutReach.l31 TWLCutReach.n4 ?_
                                    refine TQ.ldBV hz47 hc45 hn44 g109 rfl rfl rfl rfl TWLCutReach.s4 (List.Mem.tail _ (List.Mem.tail _ (List.Mem.tail _ (List.Mem.tail _ (List.Mem.tail _ (List.Mem.head _)))))) ?_
                                    refine TQ.not rfl rfl rfl rfl ?_
                                    refine TQ.move rfl rfl rfl rfl ?_
                                    refine TQ.decB (t := 179) (b' := true) rfl g110 ?_
                                    refine TQ.move rfl rfl rfl rfl ?_
                                    refine TQ.fieldAddr0 rfl rfl rfl rfl TWLCutReach.f28_1 ?_
                                    refine TQ.load1 rfl rfl rfl rfl TWLCutReach.s3 (List.Mem.head _) rfl ?_
                                    refine TQ.tail [68, 69, 70, 71, 72, 73] rfl rfl ?_
                                    refine TO.ixV hz47 hc45 hn44 g111 rfl rfl rfl rfl rfl TWLCutReach.l31 TWLCutReach.n4 ?_
                                    refine TO.ldBV hz47 hc45 hn44 g111 rfl rfl rfl rfl TWLCutReach.s4 (List.Mem.tail _ (List.Mem.tail _ (List.Mem.tail _ (List.Mem.tail _ (List.Mem.tail _ (List.Mem.head _)))))) ?_
                                    refine TO.pickT rfl rfl rfl rfl rfl ?_
                                    refine TO.pickF rfl rfl rfl rfl rfl ?_
                                    refine TO.pickT rfl rfl rfl rfl rfl ?_
                                    refine TO.pickF rfl rfl rfl rfl rfl ?_
                                    refine TO.done ?_
                                    refine X.seq_normal ?_
                                    rcases ite_some H with ⟨g112, H⟩ | ⟨g112, H⟩
                                    ·
                                      refine T.condT rfl g112 ?_
                                      refine T.seq ?_
                                      refine T.regionL (ll := [0]) rfl ?_
                                      refine TO.assign rfl rfl rfl rfl ?_
                                      refine TO.done ?_
                                      refine X.seq_normal ?_
                                      refine T.trim (AllF.cons (t := 4) rfl AllF.nil) ?_
                                      refine T.ret ?_
                                      refine X.block_ret ?_
                                      refine X.then_ret ?_
                                      have H := loop_exitE H C_9 ▸ K_9
                                      refine X.then_ret ?_
                                      refine X.block_ret ?_
                                      refine X.then_ret ?_
                                      obtain rfl := ret1 H
                                      exact X.ret1 rfl rfl rfl rfl (Res.tmp rfl) Pick.nil ⟨rfl, rfl⟩
                                    ·
                                      refine T.condF rfl (Bool.eq_false_iff.2 g112) ?_
                                      refine T.skip ?_
                                      refine X.block_normal ?_
                                      refine X.seq_normal ?_
                                      obtain ⟨g113, H⟩ := gd_some H
                                      refine T.regionL (ll := [0, 1]) rfl ?_
                                      refine TO.addG g113 rfl rfl rfl rfl rfl ?_
                                      refine TO.move rfl rfl rfl rfl ?_
                                      refine TO.done ?_
                                      have H := loop_next H C_9
                                      exact X.againE2 n_9 (x83 + 1) H (Nat.lt_succ_self _) (AllF.cons rfl (AllF.cons rfl (AllF.cons rfl (AllF.cons rfl (AllF.cons rfl (AllF.cons rfl (AllF.cons rfl (AllF.cons rfl AllF.nil)))))))) (Pick.cons (Take.tail (Take.head _ _)) (Pick.cons (Take.tail (Take.head _ _)) (Pick.cons (Take.tail (Take.head _ _)) (Pick.cons (Take.tail (Take.head _ _)) (Pick.cons (Take.tail (Take.head _ _)) Pick.nil)))))
                                  ·
                                    refine TQ.move rfl rfl rfl rfl ?_
                                    refine TQ.decB (t := 172) (b' := false) rfl (Bool.eq_false_iff.2 g108) ?_
                                    refine TQ.move rfl rfl rfl rfl ?_
                                    refine TQ.fieldAddr0 rfl rfl rfl rfl TWLCutReach.f28_0 ?_
                                    refine TQ.load1 rfl rfl rfl rfl TWLCutReach.s3 (List.Mem.head _) rfl ?_
                                    refine TQ.ixV hz47 hc45 hn44 g109 rfl rfl rfl rfl rfl TWLCutReach.l31 TWLCutReach.n4 ?_
                                    refine TQ.ldBV hz47 hc45 hn44 g109 rfl rfl rfl rfl TWLCutReach.s4 (List.Mem.tail _ (List.Mem.tail _ (List.Mem.tail _ (List.Mem.tail _ (List.Mem.tail _ (List.Mem.head _)))))) ?_
                                    refine TQ.not rfl rfl rfl rfl ?_
                                    refine TQ.move rfl rfl rfl rfl ?_
                                    refine TQ.decB (t := 179) (b' := false) rfl (Bool.eq_false_iff.2 g110) ?_
                                    refine TQ.shut rfl rfl rfl rfl ?_
                                    refine TQ.shut rfl rfl rfl rfl ?_
                                    refine TQ.shut rfl rfl rfl rfl ?_
                                    refine TQ.tail [68, 69, 70, 71, 72, 73] rfl rfl ?_
                                    refine TO.shut rfl rfl rfl rfl ?_
                                    refine TO.shut rfl rfl rfl rfl ?_
                                    refine TO.pickF rfl rfl rfl rfl rfl ?_
                                    refine TO.pickF rfl rfl rfl rfl rfl ?_
                                    refine TO.pickT rfl rfl rfl rfl rfl ?_
                                    refine TO.pickF rfl rfl rfl rfl rfl ?_
                                    refine TO.done ?_
                                    refine X.seq_normal ?_
                                    refine T.condF rfl rfl ?_
                                    refine T.skip ?_
                                    refine X.block_normal ?_
                                    refine X.seq_normal ?_
                                    obtain ⟨g114, H⟩ := gd_some H
                                    refine T.regionL (ll := [0, 1]) rfl ?_
                                    refine TO.addG g114 rfl rfl rfl rfl rfl ?_
                                    refine TO.move rfl rfl rfl rfl ?_
                                    refine TO.done ?_
                                    have H := loop_next H C_9
                                    exact X.againE2 n_9 (x83 + 1) H (Nat.lt_succ_self _) (AllF.cons rfl (AllF.cons rfl (AllF.cons rfl (AllF.cons rfl (AllF.cons rfl (AllF.cons rfl (AllF.cons rfl (AllF.cons rfl AllF.nil)))))))) (Pick.cons (Take.tail (Take.head _ _)) (Pick.cons (Take.tail (Take.head _ _)) (Pick.cons (Take.tail (Take.head _ _)) (Pick.cons (Take.tail (Take.head _ _)) (Pick.cons (Take.tail (Take.head _ _)) Pick.nil)))))
                            ·
                              refine TQ.move rfl rfl rfl rfl ?_
                              refine TQ.decB (t := 152) (b' := false) rfl (Bool.eq_false_iff.2 g101) ?_
                              refine TQ.move rfl rfl rfl rfl ?_
                              refine TQ.move rfl rfl rfl rfl ?_
                              refine TQ.ixV hz23 hc21 hn20 g102 rfl rfl rfl rfl rfl TWLCutReach.l25 TWLCutReach.n2 ?_
                              refine TQ.ldIV hz23 hc21 hn20 g102 rfl rfl rfl rfl TWLCutReach.s2 (List.Mem.tail _ (List.Mem.tail _ (List.Mem.tail _ (List.Mem.head _)))) ?_
                              refine TQ.bin rfl rfl rfl rfl rfl rfl ?_
                              refine TQ.move rfl rfl rfl rfl ?_
                              refine TQ.decB (t := 158) (b' := false) rfl (decide_eq_false g103) ?_
                              refine TQ.shut rfl rfl rfl rfl ?_
                              refine TQ.shut rfl rfl rfl rfl ?_
                              refine TQ.shut rfl rfl rfl rfl ?_
                              refine TQ.shut rfl rfl rfl rfl ?_
                              refine TQ.shut rfl rfl rfl rfl ?_
                              refine TQ.shut rfl rfl rfl rfl ?_
                              refine TQ.shutU rfl rfl rfl rfl ?_
                              refine TQ.shutU rfl rfl rfl rfl ?_
                              refine TQ.shutU rfl rfl rfl rfl ?_
                              refine TQ.shutU rfl rfl rfl rfl ?_
                              refine TQ.shutU rfl rfl rfl rfl ?_
                              refine TQ.shutU rfl rfl rfl rfl ?_
                              refine TQ.shut rfl rfl rfl rfl ?_
                              refine TQ.shut rfl rfl rfl rfl ?_
                              refine TQ.shutU rfl rfl rfl rfl ?_
                              refine TQ.shutU rfl rfl rfl rfl ?_
                              refine TQ.shutU rfl rfl rfl rfl ?_
                              refine TQ.shutU rfl rfl rfl rfl ?_
                              refine TQ.shutU rfl rfl rfl rfl ?_
                              refine TQ.shutU rfl rfl rfl rfl ?_
                              refine TQ.shutU rfl rfl rfl rfl ?_
                              refine TQ.shutU rfl rfl rfl rfl ?_
                              refine TQ.shutU rfl rfl rfl rfl ?_
                              refine TQ.shutU rfl rfl rfl rfl ?_
                              refine TQ.tail [68, 69, 70, 71, 72, 73] rfl rfl ?_
                              refine TO.shutU rfl rfl rfl rfl ?_
                              refine TO.shutU rfl rfl rfl rfl ?_
                              refine TO.shutU rfl rfl rfl rfl ?_
                              refine TO.shut rfl rfl rfl rfl ?_
                              refine TO.pickF rfl rfl rfl rfl rfl ?_
                              refine TO.pickF rfl rfl rfl rfl rfl ?_
                              refine TO.done ?_
                              refine X.seq_normal ?_
                              refine T.condF rfl rfl ?_
                              refine T.skip ?_
                              refine X.block_normal ?_
                              refine X.seq_normal ?_
                              obtain ⟨g115, H⟩ := gd_some H
                              refine T.regionL (ll := [0, 1]) rfl ?_
                              refine TO.addG g115 rfl rfl rfl rfl rfl ?_
                              refine TO.move rfl rfl rfl rfl ?_
                              refine TO.done ?_
                              have H := loop_next H C_9
                              exact X.againE2 n_9 (x83 + 1) H (Nat.lt_succ_self _) (AllF.cons rfl (AllF.cons rfl (AllF.cons rfl (AllF.cons rfl (AllF.cons rfl (AllF.cons rfl (AllF.cons rfl (AllF.cons rfl AllF.nil)))))))) (Pick.cons (Take.tail (Take.head _ _)) (Pick.cons (Take.tail (Take.head _ _)) (Pick.cons (Take.tail (Take.head _ _)) (Pick.cons (Take.tail (Take.head _ _)) (Pick.cons (Take.tail (Take.head _ _)) Pick.nil)))))
                      ·
                        refine T.condPF rfl g84 ?_
                        refine T.exit ?_
                        refine X.then_exit ?_
                        have H := loop_exitE H C_9 ▸ K_9
                        refine X.then_exit ?_
                        refine X.block_here ?_
                        exact X.metE1 () H (AllF.cons rfl (AllF.cons rfl (AllF.cons rfl AllF.nil))) (Pick.cons (Take.head _ _) (Pick.cons (Take.head _ _) (Pick.cons (Take.tail (Take.head _ _)) Pick.nil)))
                    · rintro u116 H
                      unfold m_acequialaw04_CutReach_j15 at H
                      refine T.seq ?_
                      obtain ⟨g117, H⟩ := gd_some H
                      rcases ite_some H with ⟨g118, H⟩ | ⟨g118, H⟩
                      ·
                        obtain ⟨r119, e120, H⟩ := bd_some H
                        refine T.regionL (ll := [0, 1, 2, 3, 4, 5, 6, 7, 8, 9, 10]) rfl ?_
                        refine TO.move rfl rfl rfl rfl ?_
                        refine TO.move rfl rfl rfl rfl ?_
                        refine TO.fieldAddr0 rfl rfl rfl rfl TWLCutReach.f24_2 ?_
                        refine TO.load1 rfl rfl rfl rfl TWLCutReach.s3 (List.Mem.head _) rfl ?_
                        refine TO.ixV hz35 hc33 hn32 g117 rfl rfl rfl rfl rfl TWLCutReach.l31 TWLCutReach.n4 ?_
                        refine TO.ldBV hz35 hc33 hn32 g117 rfl rfl rfl rfl TWLCutReach.s4 (List.Mem.tail _ (List.Mem.tail _ (List.Mem.head _))) ?_
                        refine TO.eqb rfl rfl rfl rfl rfl TWLCutReach.u4 ?_
                        refine TO.move rfl rfl rfl rfl ?_
                        refine TO.decB (t := 197) (b' := true) rfl g118 ?_
                        refine TO.callX TWLCutReach.c42 rfl rfl rfl rfl (fun wc hwc => w_acequialaw04_awake  wc  e120) ?_
                        rintro _ _ ⟨rfl, rfl⟩
                        refine TO.pickT rfl rfl rfl rfl rfl ?_
                        refine TO.assign rfl rfl rfl rfl ?_
                        refine TO.done ?_
                        refine X.seq_normal ?_
                        refine T.trim (AllF.cons (t := 4) rfl AllF.nil) ?_
                        refine T.ret ?_
                        obtain rfl := ret1 H
                        exact X.ret1 rfl rfl rfl rfl (Res.tmp rfl) Pick.nil ⟨rfl, rfl⟩
                      ·
                        refine T.regionL (ll := [0, 1, 2, 3, 4, 5, 6, 7, 8, 9, 10]) rfl ?_
                        refine TO.move rfl rfl rfl rfl ?_
                        refine TO.move rfl rfl rfl rfl ?_
                        refine TO.fieldAddr0 rfl rfl rfl rfl TWLCutReach.f24_2 ?_
                        refine TO.load1 rfl rfl rfl rfl TWLCutReach.s3 (List.Mem.head _) rfl ?_
                        refine TO.ixV hz35 hc33 hn32 g117 rfl rfl rfl rfl rfl TWLCutReach.l31 TWLCutReach.n4 ?_
                        refine TO.ldBV hz35 hc33 hn32 g117 rfl rfl rfl rfl TWLCutReach.s4 (List.Mem.tail _ (List.Mem.tail _ (List.Mem.head _))) ?_
                        refine TO.eqb rfl rfl rfl rfl rfl TWLCutReach.u4 ?_
                        refine TO.move rfl rfl rfl rfl ?_
                        refine TO.decB (t := 197) (b' := false) rfl (Bool.eq_false_iff.2 g118) ?_
                        refine TO.shut rfl rfl rfl rfl ?_
                        refine TO.pickF rfl rfl rfl rfl rfl ?_
                        refine TO.assign rfl rfl rfl rfl ?_
                        refine TO.done ?_
                        refine X.seq_normal ?_
                        refine T.trim (AllF.cons (t := 4) rfl AllF.nil) ?_
                        refine T.ret ?_
                        obtain rfl := ret1 H
                        exact X.ret1 rfl rfl rfl rfl (Res.tmp rfl) Pick.nil ⟨rfl, rfl⟩
end Go.Proofs.Ytcdbemdogkmahaa.Ax
