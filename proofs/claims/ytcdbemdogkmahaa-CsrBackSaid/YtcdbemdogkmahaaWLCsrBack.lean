/- What a call does is what its model says: acequialaw02.CsrBack. (Printed by sx.py.) -/
import Derived.Test.YtcdbemdogkmahaaAcqMLCsrBack
import Derived.Test.YtcdbemdogkmahaaAcqArityE
import Derived.Test.YtcdbemdogkmahaaWS2a
namespace Go.Proofs.Ytcdbemdogkmahaa.Ax
open Go Go.Acq Go.RowKit Go.Proofs
set_option linter.unusedVariables false
set_option linter.unusedSimpArgs false
theorem TWLCsrBack.a24 : aggT Try.prog 24 4 = true := by kernel_rfl
theorem TWLCsrBack.a33 : aggT Try.prog 33 9 = true := by kernel_rfl
theorem TWLCsrBack.c17 : callable Try.prog 17 = true := by kernel_rfl
theorem TWLCsrBack.c18 : callable Try.prog 18 = true := by kernel_rfl
theorem TWLCsrBack.c19 : callable Try.prog 19 = true := by kernel_rfl
theorem TWLCsrBack.c20 : callable Try.prog 20 = true := by kernel_rfl
theorem TWLCsrBack.c22 : callable Try.prog 22 = true := by kernel_rfl
theorem TWLCsrBack.c23 : callable Try.prog 23 = true := by kernel_rfl
theorem TWLCsrBack.c24 : callable Try.prog 24 = true := by kernel_rfl
theorem TWLCsrBack.c25 : callable Try.prog 25 = true := by kernel_rfl
theorem TWLCsrBack.f24_3 : fieldT Try.prog 24 3 = some 3 := by kernel_rfl
theorem TWLCsrBack.f28_2 : fieldT Try.prog 28 2 = some 2 := by kernel_rfl
theorem TWLCsrBack.f33_5 : fieldT Try.prog 33 5 = some 5 := by kernel_rfl
theorem TWLCsrBack.f33_7 : fieldT Try.prog 33 7 = some 7 := by kernel_rfl
theorem TWLCsrBack.i3 : intT Try.prog 3 = some .i64 := by kernel_rfl
theorem TWLCsrBack.l22 : sliceT Try.prog 22 = some 28 := by kernel_rfl
theorem TWLCsrBack.l25 : sliceT Try.prog 25 = some 2 := by kernel_rfl
theorem TWLCsrBack.l30 : sliceT Try.prog 30 = some 3 := by kernel_rfl
theorem TWLCsrBack.n2 : sizeT Try.prog 2 = some 1 := by kernel_rfl
theorem TWLCsrBack.n24 : sizeT Try.prog 24 = some 4 := by kernel_rfl
theorem TWLCsrBack.n28 : sizeT Try.prog 28 = some 3 := by kernel_rfl
theorem TWLCsrBack.n3 : sizeT Try.prog 3 = some 1 := by kernel_rfl
theorem TWLCsrBack.n33 : sizeT Try.prog 33 = some 9 := by kernel_rfl
theorem TWLCsrBack.o5 : (Try.prog.underlying 5).isSome = true := by kernel_rfl
theorem TWLCsrBack.s2 : scalT Try.prog 2 = true := by kernel_rfl
theorem TWLCsrBack.s22 : scalT Try.prog 22 = true := by kernel_rfl
theorem TWLCsrBack.s3 : scalT Try.prog 3 = true := by kernel_rfl
theorem TWLCsrBack.s30 : scalT Try.prog 30 = true := by kernel_rfl
theorem TWLCsrBack.u4 : Try.prog.underlying 4 = some .bool := by kernel_rfl
theorem TWLCsrBack.z33 : zeroT Try.prog 33 = some (.agg #[.int .i64 0, .int .i64 0, .int .i64 0, .slice none 0 0, .slice none 0 0, .slice none 0 0, .slice none 0 0, .slice none 0 0, .slice none 0 0]) := by kernel_rfl

/-- acequia/acequialaw02.CsrBack -/
theorem w_acequialaw02_CsrBack {n0 : Net} {l1 : List Int} {at2 : Int} {by3 : Int} {n0_Arcs_b : Option Addr} {n0_Arcs_n : Nat} {n0_Arcs_c : Nat} {l1_b : Option Addr} {l1_n : Nat} {l1_c : Nat} (w : World) (h_n0_Arcs : RS w [] arcC 3 n0_Arcs_b n0_Arcs_n n0_Arcs_c n0.Arcs) (h_l1 : RS w [] (intC .i64) 1 l1_b l1_n l1_c l1) {r0 : Bool} (H : m_acequialaw02_CsrBack n0 l1 at2 by3 = some r0) : Fnc Try.prog 4 #[.agg #[.int .i64 n0.N, .int .i64 n0.S, .int .i64 n0.T, .slice n0_Arcs_b n0_Arcs_n n0_Arcs_c], .slice l1_b l1_n l1_c, .int .u8 at2, .int .i64 by3] w [] (fun v N => v = .bool r0 ∧ N = []) := by
  unfold m_acequialaw02_CsrBack at H
  refine Fnc.enter (vs := [.agg #[.int .i64 n0.N, .int .i64 n0.S, .int .i64 n0.T, .slice n0_Arcs_b n0_Arcs_n n0_Arcs_c], .slice l1_b l1_n l1_c, .int .u8 at2, .int .i64 by3]) Try.func4 rfl rfl (Inv.refl w) ?_
  refine T.seq ?_
  refine T.regionL (ll := [0, 1]) rfl ?_
  refine TO.boxA rfl rfl rfl rfl ?_; intro b1
  refine TO.assign rfl rfl rfl rfl ?_
  refine TO.done ?_
  refine X.seq_normal ?_
  refine T.seq ?_
  obtain ⟨r3, e4, H⟩ := bd_some H
  refine T.regionL (ll := [0, 1, 2]) rfl ?_
  refine TO.loadA rfl rfl rfl rfl TWLCsrBack.a24 (List.Mem.head _) rfl ?_
  refine TO.callX TWLCsrBack.c17 rfl rfl rfl rfl (fun wc hwc => w_acequialow_Some (n0 := n0) (verts1 := 40) (arcs2 := 80) wc (h_n0_Arcs.mono hwc) e4) ?_
  rintro _ _ ⟨ob5, n6, c7, j8, rfl, rfl, hn9, hc10, hj11, hz12⟩
  refine TO.storeA rfl rfl rfl rfl (Take.tail (Take.head _ _)) TWLCsrBack.n24 rfl rfl rfl ?_
  refine TO.done ?_
  refine X.seq_normal ?_
  refine T.seq ?_
  obtain ⟨r14, e15, H⟩ := bd_some H
  refine T.regionL (ll := [0, 1, 2, 3]) rfl ?_
  refine TO.loadA rfl rfl rfl rfl TWLCsrBack.a24 (List.Mem.head _) rfl ?_
  refine TO.move rfl rfl rfl rfl ?_
  refine TO.callX TWLCsrBack.c18 rfl rfl rfl rfl (fun wc hwc => w_acequialow_Within (n0 := r3) (l1 := l1) wc (hwc.rs (f := arcC) (s := 3) (xs := r3.Arcs) (j := j8) (fun _ => rfl) (List.Mem.tail _ (List.Mem.head _)) hn9 hc10 hz12) (h_l1.mono hwc) e15) ?_
  rintro _ _ ⟨ob16, n17, c18, j19, rfl, rfl, hn20, hc21, hj22, hz23⟩
  refine TO.assign rfl rfl rfl rfl ?_
  refine TO.done ?_
  refine X.seq_normal ?_
  refine T.seq ?_
  obtain ⟨⟨r25, r26⟩, e27, H⟩ := bd_some H
  refine T.regionL (ll := [0, 1, 2, 3, 4, 5, 6, 7]) rfl ?_
  refine TO.loadA rfl rfl rfl rfl TWLCsrBack.a24 (List.Mem.tail _ (List.Mem.head _)) rfl ?_
  refine TO.callX TWLCsrBack.c19 rfl rfl rfl rfl (fun wc hwc => w_csr_Make (n0 := r3) wc (hwc.rs (f := arcC) (s := 3) (xs := r3.Arcs) (j := j8) (fun _ => rfl) (List.Mem.tail _ (List.Mem.tail _ (List.Mem.head _))) hn9 hc10 hz12) e27) ?_
  rintro _ _ ⟨ob28, n29, c30, j31, ob32, n33, c34, j35, ob36, n37, c38, j39, ob40, n41, c42, j43, ob44, n45, c46, j47, ob48, n49, c50, j51, rfl, rfl, hn52, hc53, hj54, hz55, hn56, hc57, hj58, hz59, hn60, hc61, hj62, hz63, hn64, hc65, hj66, hz67, hn68, hc69, hj70, hz71, hn72, hc73, hj74, hz75⟩
  refine TO.move rfl rfl rfl rfl ?_
  refine TO.extract rfl rfl rfl rfl rfl ?_
  refine TO.extract rfl rfl rfl rfl rfl ?_
  refine TO.allocA rfl rfl rfl TWLCsrBack.z33 ?_; intro b82
  refine TO.storeA rfl rfl rfl rfl (Take.head _ _) TWLCsrBack.n33 rfl rfl rfl ?_
  refine TO.assign rfl rfl rfl rfl ?_
  refine TO.done ?_
  refine X.seq_normal ?_
  refine T.seq ?_
  obtain ⟨⟨r84, r85⟩, e86, H⟩ := bd_some H
  refine T.regionL (ll := [0, 1, 2, 3, 4, 5, 6, 7]) rfl ?_
  refine TO.loadA rfl rfl rfl rfl TWLCsrBack.a33 (List.Mem.head _) rfl ?_
  refine TO.move rfl rfl rfl rfl ?_
  refine TO.callX TWLCsrBack.c20 rfl rfl rfl rfl (fun wc hwc => w_csr_Res (c0 := r25) (f1 := r14) wc (hwc.rs (f := (intC .i64)) (s := 1) (xs := r25.First) (j := j31) (fun _ => rfl) (List.Mem.tail _ (List.Mem.head _)) hn52 hc53 hz55) (hwc.rs (f := (intC .i64)) (s := 1) (xs := r25.Head) (j := j35) (fun _ => rfl) (List.Mem.tail _ (List.Mem.tail _ (List.Mem.head _))) hn56 hc57 hz59) (hwc.rs (f := (intC .i64)) (s := 1) (xs := r25.Rev) (j := j39) (fun _ => rfl) (List.Mem.tail _ (List.Mem.tail _ (List.Mem.tail _ (List.Mem.head _)))) hn60 hc61 hz63) (hwc.rs (f := (intC .i64)) (s := 1) (xs := r25.Cap) (j := j43) (fun _ => rfl) (List.Mem.tail _ (List.Mem.tail _ (List.Mem.tail _ (List.Mem.tail _ (List.Mem.head _))))) hn64 hc65 hz67) (hwc.rs (f := (intC .i64)) (s := 1) (xs := r25.Arc) (j := j47) (fun _ => rfl) (List.Mem.tail _ (List.Mem.tail _ (List.Mem.tail _ (List.Mem.tail _ (List.Mem.tail _ (List.Mem.head _)))))) hn68 hc69 hz71) (hwc.rs (f := boolC) (s := 1) (xs := r25.Back) (j := j51) (fun _ => rfl) (List.Mem.tail _ (List.Mem.tail _ (List.Mem.tail _ (List.Mem.tail _ (List.Mem.tail _ (List.Mem.tail _ (List.Mem.head _))))))) hn72 hc73 hz75) (hwc.rs (f := (intC .i64)) (s := 1) (xs := r14) (j := j19) (fun _ => rfl) (List.Mem.tail _ (List.Mem.tail _ (List.Mem.tail _ (List.Mem.tail _ (List.Mem.tail _ (List.Mem.tail _ (List.Mem.tail _ (List.Mem.head _)))))))) hn20 hc21 hz23) e86) ?_
  rintro _ _ ⟨ob87, n88, c89, j90, rfl, rfl, hn91, hc92, hj93, hz94⟩
  refine TO.move rfl rfl rfl rfl ?_
  refine TO.extract rfl rfl rfl rfl rfl ?_
  refine TO.extract rfl rfl rfl rfl rfl ?_
  refine TO.assign rfl rfl rfl rfl ?_
  refine TO.assign rfl rfl rfl rfl ?_
  refine TO.done ?_
  refine X.seq_normal ?_
  refine T.seq ?_
  refine T.seq ?_
  rcases ite_some H with ⟨g96, H⟩ | ⟨g96, H⟩
  ·
    refine T.regionL (ll := [0, 1, 2, 3, 4, 5, 6, 7, 8, 9, 10, 11, 12]) rfl ?_
    refine TO.move rfl rfl rfl rfl ?_
    refine TO.bin rfl rfl rfl rfl rfl rfl ?_
    refine TO.move rfl rfl rfl rfl ?_
    refine TO.decB (t := 41) (b' := true) rfl (decide_eq_true g96) ?_
    refine TO.shut rfl rfl rfl rfl ?_
    refine TO.shut rfl rfl rfl rfl ?_
    refine TO.pickT rfl rfl rfl rfl rfl ?_
    refine TO.move rfl rfl rfl rfl ?_
    refine TO.shut rfl rfl rfl rfl ?_
    refine TO.shut rfl rfl rfl rfl ?_
    refine TO.shut rfl rfl rfl rfl ?_
    refine TO.shut rfl rfl rfl rfl ?_
    refine TO.shut rfl rfl rfl rfl ?_
    refine TO.pickT rfl rfl rfl rfl rfl ?_
    refine TO.done ?_
    refine X.seq_normal ?_
    refine T.condT rfl rfl ?_
    refine T.seq ?_
    refine T.regionL (ll := [0]) rfl ?_
    refine TO.assign rfl rfl rfl rfl ?_
    refine TO.done ?_
    refine X.seq_normal ?_
    refine T.ret ?_
    refine X.then_ret ?_
    obtain rfl := ret1 H
    exact X.ret1 rfl rfl rfl rfl (Res.tmp rfl) Pick.nil ⟨rfl, rfl⟩
  ·
    rcases ite_some H with ⟨g97, H⟩ | ⟨g97, H⟩
    ·
      refine T.regionL (ll := [0, 1, 2, 3, 4, 5, 6, 7, 8, 9, 10, 11, 12]) rfl ?_
      refine TO.move rfl rfl rfl rfl ?_
      refine TO.bin rfl rfl rfl rfl rfl rfl ?_
      refine TO.move rfl rfl rfl rfl ?_
      refine TO.decB (t := 41) (b' := false) rfl (decide_eq_false g96) ?_
      refine TO.move rfl rfl rfl rfl ?_
      refine TO.bin rfl rfl rfl rfl rfl rfl ?_
      refine TO.pickF rfl rfl rfl rfl rfl ?_
      refine TO.move rfl rfl rfl rfl ?_
      refine TO.decB (t := 45) (b' := true) rfl (decide_eq_true g97) ?_
      refine TO.shut rfl rfl rfl rfl ?_
      refine TO.shut rfl rfl rfl rfl ?_
      refine TO.shut rfl rfl rfl rfl ?_
      refine TO.shut rfl rfl rfl rfl ?_
      refine TO.shut rfl rfl rfl rfl ?_
      refine TO.pickT rfl rfl rfl rfl rfl ?_
      refine TO.done ?_
      refine X.seq_normal ?_
      refine T.condT rfl rfl ?_
      refine T.seq ?_
      refine T.regionL (ll := [0]) rfl ?_
      refine TO.assign rfl rfl rfl rfl ?_
      refine TO.done ?_
      refine X.seq_normal ?_
      refine T.ret ?_
      refine X.then_ret ?_
      obtain rfl := ret1 H
      exact X.ret1 rfl rfl rfl rfl (Res.tmp rfl) Pick.nil ⟨rfl, rfl⟩
    ·
      obtain ⟨r98, e99, H⟩ := bd_some H
      refine T.regionL (ll := [0, 1, 2, 3, 4, 5, 6, 7, 8, 9, 10, 11, 12]) rfl ?_
      refine TO.move rfl rfl rfl rfl ?_
      refine TO.bin rfl rfl rfl rfl rfl rfl ?_
      refine TO.move rfl rfl rfl rfl ?_
      refine TO.decB (t := 41) (b' := false) rfl (decide_eq_false g96) ?_
      refine TO.move rfl rfl rfl rfl ?_
      refine TO.bin rfl rfl rfl rfl rfl rfl ?_
      refine TO.pickF rfl rfl rfl rfl rfl ?_
      refine TO.move rfl rfl rfl rfl ?_
      refine TO.decB (t := 45) (b' := false) rfl (decide_eq_false g97) ?_
      refine TO.move rfl rfl rfl rfl ?_
      refine TO.lenX (xs := r84) hn91 rfl rfl rfl rfl rfl TWLCsrBack.l25 ?_
      refine TO.loadA rfl rfl rfl rfl TWLCsrBack.a33 (List.Mem.tail _ (List.Mem.head _)) rfl ?_
      refine TO.callX TWLCsrBack.c22 rfl rfl rfl rfl (fun wc hwc => w_csr_Len (c0 := r25) wc (hwc.rs (f := (intC .i64)) (s := 1) (xs := r25.First) (j := j31) (fun _ => rfl) (List.Mem.tail _ (List.Mem.tail _ (List.Mem.head _))) hn52 hc53 hz55) (hwc.rs (f := (intC .i64)) (s := 1) (xs := r25.Head) (j := j35) (fun _ => rfl) (List.Mem.tail _ (List.Mem.tail _ (List.Mem.tail _ (List.Mem.head _)))) hn56 hc57 hz59) (hwc.rs (f := (intC .i64)) (s := 1) (xs := r25.Rev) (j := j39) (fun _ => rfl) (List.Mem.tail _ (List.Mem.tail _ (List.Mem.tail _ (List.Mem.tail _ (List.Mem.head _))))) hn60 hc61 hz63) (hwc.rs (f := (intC .i64)) (s := 1) (xs := r25.Cap) (j := j43) (fun _ => rfl) (List.Mem.tail _ (List.Mem.tail _ (List.Mem.tail _ (List.Mem.tail _ (List.Mem.tail _ (List.Mem.head _)))))) hn64 hc65 hz67) (hwc.rs (f := (intC .i64)) (s := 1) (xs := r25.Arc) (j := j47) (fun _ => rfl) (List.Mem.tail _ (List.Mem.tail _ (List.Mem.tail _ (List.Mem.tail _ (List.Mem.tail _ (List.Mem.tail _ (List.Mem.head _))))))) hn68 hc69 hz71) (hwc.rs (f := boolC) (s := 1) (xs := r25.Back) (j := j51) (fun _ => rfl) (List.Mem.tail _ (List.Mem.tail _ (List.Mem.tail _ (List.Mem.tail _ (List.Mem.tail _ (List.Mem.tail _ (List.Mem.tail _ (List.Mem.head _)))))))) hn72 hc73 hz75) e99) ?_
      rintro _ _ ⟨rfl, rfl⟩
      refine TO.bin rfl rfl rfl rfl rfl rfl ?_
      refine TO.pickF rfl rfl rfl rfl rfl ?_
      refine TO.done ?_
      refine X.seq_normal ?_
      rcases ite_some H with ⟨g100, H⟩ | ⟨g100, H⟩
      ·
        refine T.condPT rfl g100 ?_
        refine T.seq ?_
        refine T.regionL (ll := [0]) rfl ?_
        refine TO.assign rfl rfl rfl rfl ?_
        refine TO.done ?_
        refine X.seq_normal ?_
        refine T.ret ?_
        refine X.then_ret ?_
        obtain rfl := ret1 H
        exact X.ret1 rfl rfl rfl rfl (Res.tmp rfl) Pick.nil ⟨rfl, rfl⟩
      ·
        refine T.condPF rfl g100 ?_
        refine T.skip ?_
        refine X.seq_normal ?_
        refine T.seq ?_
        refine T.seq ?_
        refine T.regionL (ll := [0, 1, 2]) rfl ?_
        refine TO.move rfl rfl rfl rfl ?_
        refine TO.lenX (xs := r84) hn91 rfl rfl rfl rfl rfl TWLCsrBack.l25 ?_
        refine TO.move rfl rfl rfl rfl ?_
        refine TO.done ?_
        refine X.seq_normal ?_
        refine T.meetSE1 (fun (u112 : Unit) => m_acequialaw02_CsrBack_j2 at2 by3 r3 r14 r25 r84 = some r0) (fun (u112 : Unit) => [(2, .int .u8 at2), (3, .int .i64 by3), (4, .pointer (some ⟨b1, 0, none⟩)), (9, .slice (sb ob16) n17 c18), (10, .pointer (some ⟨b82, 0, none⟩)), (12, .slice (sb ob87) n88 c89)]) (fun (u112 : Unit) => [(some b1, .cells #[.int .i64 r3.N, .int .i64 r3.S, .int .i64 r3.T, .slice (sb ob5) n6 c7] 24 (0, 0)), (ob5, .cells (arr arcC r3.Arcs j8).toArray 28 (0, 0)), (ob16, .cells (arr (intC .i64) r14 j19).toArray 2 (0, 0)), (some b82, .cells #[.int .i64 r25.N, .int .i64 r25.S, .int .i64 r25.T, .slice (sb ob28) n29 c30, .slice (sb ob32) n33 c34, .slice (sb ob36) n37 c38, .slice (sb ob40) n41 c42, .slice (sb ob44) n45 c46, .slice (sb ob48) n49 c50] 33 (0, 0)), (ob28, .cells (arr (intC .i64) r25.First j31).toArray 3 (0, 0)), (ob32, .cells (arr (intC .i64) r25.Head j35).toArray 3 (0, 0)), (ob36, .cells (arr (intC .i64) r25.Rev j39).toArray 3 (0, 0)), (ob40, .cells (arr (intC .i64) r25.Cap j43).toArray 2 (0, 0)), (ob44, .cells (arr (intC .i64) r25.Arc j47).toArray 3 (0, 0)), (ob48, .cells (arr boolC r25.Back j51).toArray 4 (0, 0)), (ob87, .cells (arr (intC .i64) r84 j90).toArray 2 (0, 0))]) ?_ ?_
        ·
          refine T.block ?_
          obtain ⟨o_1, e_1, K_1⟩ := bd_some H
          refine T.loopE2 (fun (m_1 : Nat) (x101 : Int) => loopM (fun s => m_acequialaw02_CsrBack_s1 r3 r25 r84 s) m_1 x101 = some o_1) (fun (m_1 : Nat) (x101 : Int) => [(2, .int .u8 at2), (3, .int .i64 by3), (4, .pointer (some ⟨b1, 0, none⟩)), (9, .slice (sb ob16) n17 c18), (10, .pointer (some ⟨b82, 0, none⟩)), (12, .slice (sb ob87) n88 c89), (52, .slice (sb ob87) n88 c89), (53, .int .i64 (r84.length : Int)), (54, .int .i64 x101)]) (fun (m_1 : Nat) (x101 : Int) => [(some b1, .cells #[.int .i64 r3.N, .int .i64 r3.S, .int .i64 r3.T, .slice (sb ob5) n6 c7] 24 (0, 0)), (ob5, .cells (arr arcC r3.Arcs j8).toArray 28 (0, 0)), (ob16, .cells (arr (intC .i64) r14 j19).toArray 2 (0, 0)), (some b82, .cells #[.int .i64 r25.N, .int .i64 r25.S, .int .i64 r25.T, .slice (sb ob28) n29 c30, .slice (sb ob32) n33 c34, .slice (sb ob36) n37 c38, .slice (sb ob40) n41 c42, .slice (sb ob44) n45 c46, .slice (sb ob48) n49 c50] 33 (0, 0)), (ob28, .cells (arr (intC .i64) r25.First j31).toArray 3 (0, 0)), (ob32, .cells (arr (intC .i64) r25.Head j35).toArray 3 (0, 0)), (ob36, .cells (arr (intC .i64) r25.Rev j39).toArray 3 (0, 0)), (ob40, .cells (arr (intC .i64) r25.Cap j43).toArray 2 (0, 0)), (ob44, .cells (arr (intC .i64) r25.Arc j47).toArray 3 (0, 0)), (ob48, .cells (arr boolC r25.Back j51).toArray 4 (0, 0)), (ob87, .cells (arr (intC .i64) r84 j90).toArray 2 (0, 0))]) (fun (m_1 : Nat) (x101 : Int) => m_1) FUEL 0 e_1 (AllF.cons rfl (AllF.cons rfl (AllF.cons rfl (AllF.cons rfl (AllF.cons rfl (AllF.cons rfl (AllF.cons rfl (AllF.cons rfl (AllF.cons rfl AllF.nil))))))))) (Pick.cons (Take.tail (Take.tail (Take.tail (Take.tail (Take.tail (Take.tail (Take.tail (Take.tail (Take.tail (Take.head _ _)))))))))) (Pick.cons (Take.tail (Take.tail (Take.tail (Take.tail (Take.tail (Take.tail (Take.tail (Take.tail (Take.tail (Take.head _ _)))))))))) (Pick.cons (Take.tail (Take.tail (Take.tail (Take.tail (Take.tail (Take.tail (Take.tail (Take.tail (Take.head _ _))))))))) (Pick.cons (Take.tail (Take.head _ _)) (Pick.cons (Take.tail (Take.head _ _)) (Pick.cons (Take.tail (Take.head _ _)) (Pick.cons (Take.tail (Take.head _ _)) (Pick.cons (Take.tail (Take.head _ _)) (Pick.cons (Take.tail (Take.head _ _)) (Pick.cons (Take.tail (Take.head _ _)) (Pick.cons (Take.head _ _) Pick.nil))))))))))) ?_
          rintro m_1 x101 H
          obtain ⟨n_1, r_1, rfl, H, C_1⟩ := loopM_some H
          have H : m_acequialaw02_CsrBack_s1 r3 r25 r84 x101 = some r_1 := H
          unfold m_acequialaw02_CsrBack_s1 at H
          refine T.seq ?_
          refine T.regionL (ll := [0]) rfl ?_
          refine TO.bin rfl rfl rfl rfl rfl rfl ?_
          refine TO.done ?_
          refine X.seq_normal ?_
          refine T.seq ?_
          rcases ite_some H with ⟨g102, H⟩ | ⟨g102, H⟩
          ·
            refine T.condPT rfl g102 ?_
            refine T.skip ?_
            refine X.seq_normal ?_
            refine T.seq ?_
            refine T.block ?_
            refine T.seq ?_
            obtain ⟨g103, H⟩ := gd_some H
            refine T.regionL (ll := [0, 1, 2, 3, 4]) rfl ?_
            refine TO.move rfl rfl rfl rfl ?_
            refine TO.ixV hz94 hc92 hn91 g103 rfl rfl rfl rfl rfl TWLCsrBack.l25 TWLCsrBack.n2 ?_
            refine TO.ldIV hz94 hc92 hn91 g103 rfl rfl rfl rfl TWLCsrBack.s2 (List.Mem.tail _ (List.Mem.tail _ (List.Mem.tail _ (List.Mem.tail _ (List.Mem.tail _ (List.Mem.tail _ (List.Mem.tail _ (List.Mem.tail _ (List.Mem.tail _ (List.Mem.tail _ (List.Mem.head _))))))))))) ?_
            refine TO.assign rfl rfl rfl rfl ?_
            refine TO.assign rfl rfl rfl rfl ?_
            refine TO.done ?_
            refine X.seq_normal ?_
            refine T.seq ?_
            rcases ite_some H with ⟨g104, H⟩ | ⟨g104, H⟩
            ·
              apply T.drawQT [(59, _), (60, _), (61, _), (62, _), (63, _), (64, _), (65, _), (66, _), (67, _), (68, _), (69, _), (70, _), (71, _), (72, _), (73, _), (74, _), (75, _), (76, _), (77, _), (78, _), (79, _), (80, _), (81, _)]
              · exact mixed
              · kernel_rfl
              · kernel_rfl
              · exact rfl
              · exact rfl
              · refine ⟨?_, ?_, ?_, ?_, ?_, ?_, ?_, ?_, ?_, ?_, ?_, ?_, ?_, ?_, ?_, ?_, ?_, ?_, ?_, ?_, ?_, ?_, ?_, trivial⟩
                · intro Es
                  refine TO.move rfl rfl rfl rfl ?_
                  exact TO.done (X.ob rfl (Pick.refl _))
                · intro Es
                  refine TO.bin rfl rfl rfl rfl rfl rfl ?_
                  exact TO.done (X.ob rfl (Pick.refl _))
                · intro Es
                  refine TO.move rfl rfl rfl rfl ?_
                  refine TO.decB (t := 61) (b' := true) rfl (decide_eq_true g104) ?_
                  exact TO.done (X.ob2 rfl (Pick.refl _))
                · intro Es
                  refine TO.shut rfl rfl rfl rfl ?_
                  exact TO.done (X.ob rfl (Pick.refl _))
                · intro Es
                  refine TO.shut rfl rfl rfl rfl ?_
                  exact TO.done (X.ob rfl (Pick.refl _))
                · intro Es
                  refine TO.shut rfl rfl rfl rfl ?_
                  exact TO.done (X.ob rfl (Pick.refl _))
                · intro Es
                  refine TO.shut rfl rfl rfl rfl ?_
                  exact TO.done (X.ob rfl (Pick.refl _))
                · intro Es
                  refine TO.shut rfl rfl rfl rfl ?_
                  exact TO.done (X.ob rfl (Pick.refl _))
                · intro Es
                  refine TO.shut rfl rfl rfl rfl ?_
                  exact TO.done (X.ob rfl (Pick.refl _))
                · intro Es
                  refine TO.shut rfl rfl rfl rfl ?_
                  exact TO.done (X.ob rfl (Pick.refl _))
                · intro Es
                  refine TO.shut rfl rfl rfl rfl ?_
                  exact TO.done (X.ob rfl (Pick.refl _))
                · intro Es
                  refine TO.shut rfl rfl rfl rfl ?_
                  exact TO.done (X.ob rfl (Pick.refl _))
                · intro Es
                  refine TO.shut rfl rfl rfl rfl ?_
                  exact TO.done (X.ob rfl (Pick.refl _))
                · intro Es
                  refine TO.shut rfl rfl rfl rfl ?_
                  exact TO.done (X.ob rfl (Pick.refl _))
                · intro Es
                  refine TO.shut rfl rfl rfl rfl ?_
                  exact TO.done (X.ob rfl (Pick.refl _))
                · intro Es
                  refine TO.shut rfl rfl rfl rfl ?_
                  exact TO.done (X.ob rfl (Pick.refl _))
                · intro Es
                  refine TO.shut rfl rfl rfl rfl ?_
                  exact TO.done (X.ob rfl (Pick.refl _))
                · intro Es
                  refine TO.shut rfl rfl rfl rfl ?_
                  exact TO.done (X.ob rfl (Pick.refl _))
                · intro Es
                  refine TO.shut rfl rfl rfl rfl ?_
                  exact TO.done (X.ob rfl (Pick.refl _))
                · intro Es
                  refine TO.shut rfl rfl rfl rfl ?_
                  exact TO.done (X.ob rfl (Pick.refl _))
                · intro Es
                  refine TO.shut rfl rfl rfl rfl ?_
                  exact TO.done (X.ob rfl (Pick.refl _))
                · intro Es
                  refine TO.shut rfl rfl rfl rfl ?_
                  exact TO.done (X.ob rfl (Pick.refl _))
                · intro Es
                  refine TO.shut rfl rfl rfl rfl ?_
                  exact TO.done (X.ob rfl (Pick.refl _))
              refine TO.shut rfl rfl rfl rfl ?_
              refine TO.pickT rfl rfl rfl rfl rfl ?_
              refine TO.done ?_
              refine X.seq_normal ?_
              refine T.condT rfl rfl ?_
              refine T.seq ?_
              refine T.regionL (ll := [0]) rfl ?_
              refine TO.assign rfl rfl rfl rfl ?_
              refine TO.done ?_
              refine X.seq_normal ?_
              refine T.ret ?_
              refine X.block_ret ?_
              refine X.then_ret ?_
              have H := loop_exitE H C_1 ▸ K_1
              refine X.then_ret ?_
              refine X.block_ret ?_
              refine X.then_ret ?_
              obtain rfl := ret1 H
              exact X.ret1 rfl rfl rfl rfl (Res.tmp rfl) Pick.nil ⟨rfl, rfl⟩
            ·
              obtain ⟨g105, H⟩ := gd_some H
              obtain ⟨g106, H⟩ := gd_some H
              obtain ⟨g107, H⟩ := gd_some H
              obtain ⟨g108, H⟩ := gd_some H
              obtain ⟨g109, H⟩ := gd_some H
              apply T.drawQT [(59, _), (60, _), (61, _), (62, _), (63, _), (64, _), (65, _), (66, _), (67, _), (68, _), (69, _), (70, _), (71, _), (72, _), (73, _), (74, _), (75, _), (76, _), (77, _), (78, _), (79, _), (80, _), (81, _)]
              · exact mixed
              · kernel_rfl
              · kernel_rfl
              · exact rfl
              · exact rfl
              · refine ⟨?_, ?_, ?_, ?_, ?_, ?_, ?_, ?_, ?_, ?_, ?_, ?_, ?_, ?_, ?_, ?_, ?_, ?_, ?_, ?_, ?_, ?_, ?_, trivial⟩
                · intro Es
                  refine TO.move rfl rfl rfl rfl ?_
                  exact TO.done (X.ob rfl (Pick.refl _))
                · intro Es
                  refine TO.bin rfl rfl rfl rfl rfl rfl ?_
                  exact TO.done (X.ob rfl (Pick.refl _))
                · intro Es
                  refine TO.move rfl rfl rfl rfl ?_
                  refine TO.decB (t := 61) (b' := false) rfl (decide_eq_false g104) ?_
                  exact TO.done (X.ob2 rfl (Pick.refl _))
                · intro Es
                  refine TO.move rfl rfl rfl rfl ?_
                  exact TO.done (X.ob rfl (Pick.refl _))
                · intro Es
                  refine TO.fieldAddr0 rfl rfl rfl rfl TWLCsrBack.f33_5 ?_
                  exact TO.done (X.ob rfl (Pick.refl _))
                · intro Es
                  refine TO.load1 rfl rfl rfl rfl TWLCsrBack.s30 (List.Mem.tail _ (List.Mem.tail _ (List.Mem.tail _ (List.Mem.head _)))) rfl ?_
                  exact TO.done (X.ob rfl (Pick.refl _))
                · intro Es
                  refine TO.move rfl rfl rfl rfl ?_
                  exact TO.done (X.ob rfl (Pick.refl _))
                · intro Es
                  refine TO.ixV hz63 hc61 hn60 g105 rfl rfl rfl rfl rfl TWLCsrBack.l30 TWLCsrBack.n3 ?_
                  exact TO.done (X.ob rfl (Pick.refl _))
                · intro Es
                  refine TO.ldIV hz63 hc61 hn60 g105 rfl rfl rfl rfl TWLCsrBack.s3 (List.Mem.tail _ (List.Mem.tail _ (List.Mem.tail _ (List.Mem.tail _ (List.Mem.tail _ (List.Mem.tail _ (List.Mem.head _))))))) ?_
                  exact TO.done (X.ob rfl (Pick.refl _))
                · intro Es
                  refine TO.ixV hz94 hc92 hn91 g106 rfl rfl rfl rfl rfl TWLCsrBack.l25 TWLCsrBack.n2 ?_
                  exact TO.done (X.ob rfl (Pick.refl _))
                · intro Es
                  refine TO.ldIV hz94 hc92 hn91 g106 rfl rfl rfl rfl TWLCsrBack.s2 (List.Mem.tail _ (List.Mem.tail _ (List.Mem.tail _ (List.Mem.tail _ (List.Mem.tail _ (List.Mem.tail _ (List.Mem.tail _ (List.Mem.tail _ (List.Mem.tail _ (List.Mem.tail _ (List.Mem.head _))))))))))) ?_
                  exact TO.done (X.ob rfl (Pick.refl _))
                · intro Es
                  refine TO.fieldAddr0 rfl rfl rfl rfl TWLCsrBack.f24_3 ?_
                  exact TO.done (X.ob rfl (Pick.refl _))
                · intro Es
                  refine TO.load1 rfl rfl rfl rfl TWLCsrBack.s22 (List.Mem.head _) rfl ?_
                  exact TO.done (X.ob rfl (Pick.refl _))
                · intro Es
                  refine TO.fieldAddr0 rfl rfl rfl rfl TWLCsrBack.f33_7 ?_
                  exact TO.done (X.ob rfl (Pick.refl _))
                · intro Es
                  refine TO.load1 rfl rfl rfl rfl TWLCsrBack.s30 (List.Mem.tail _ (List.Mem.tail _ (List.Mem.tail _ (List.Mem.head _)))) rfl ?_
                  exact TO.done (X.ob rfl (Pick.refl _))
                · intro Es
                  refine TO.move rfl rfl rfl rfl ?_
                  exact TO.done (X.ob rfl (Pick.refl _))
                · intro Es
                  refine TO.ixV hz71 hc69 hn68 g107 rfl rfl rfl rfl rfl TWLCsrBack.l30 TWLCsrBack.n3 ?_
                  exact TO.done (X.ob rfl (Pick.refl _))
                · intro Es
                  refine TO.ldIV hz71 hc69 hn68 g107 rfl rfl rfl rfl TWLCsrBack.s3 (List.Mem.tail _ (List.Mem.tail _ (List.Mem.tail _ (List.Mem.tail _ (List.Mem.tail _ (List.Mem.tail _ (List.Mem.tail _ (List.Mem.tail _ (List.Mem.head _))))))))) ?_
                  exact TO.done (X.ob rfl (Pick.refl _))
                · intro Es
                  refine TO.ixV hz12 hc10 hn9 g108 rfl rfl rfl rfl rfl TWLCsrBack.l22 TWLCsrBack.n28 ?_
                  exact TO.done (X.ob rfl (Pick.refl _))
                · intro Es
                  refine TO.faR rfl rfl rfl rfl TWLCsrBack.f28_2 ?_
                  exact TO.done (X.ob rfl (Pick.refl _))
                · intro Es
                  refine TO.ldFV (f := arcC) (v := .int .i64 ((r3.Arcs.getD (r25.Arc.getD x101.toNat 0).toNat default).cap)) default (fun _ => rfl) hz12 hc10 hn9 g108 rfl rfl rfl rfl rfl TWLCsrBack.s2 (List.Mem.tail _ (List.Mem.head _)) ?_
                  exact TO.done (X.ob rfl (Pick.refl _))
                · intro Es
                  refine TO.move rfl rfl rfl rfl ?_
                  exact TO.done (X.ob rfl (Pick.refl _))
                · intro Es
                  refine TO.subG g109 rfl rfl rfl rfl rfl ?_
                  exact TO.done (X.ob rfl (Pick.refl _))
              refine TO.bin rfl rfl rfl rfl rfl rfl ?_
              refine TO.pickF rfl rfl rfl rfl rfl ?_
              refine TO.done ?_
              refine X.seq_normal ?_
              rcases ite_some H with ⟨g110, H⟩ | ⟨g110, H⟩
              ·
                refine T.condPT rfl g110 ?_
                refine T.seq ?_
                refine T.regionL (ll := [0]) rfl ?_
                refine TO.assign rfl rfl rfl rfl ?_
                refine TO.done ?_
                refine X.seq_normal ?_
                refine T.ret ?_
                refine X.block_ret ?_
                refine X.then_ret ?_
                have H := loop_exitE H C_1 ▸ K_1
                refine X.then_ret ?_
                refine X.block_ret ?_
                refine X.then_ret ?_
                obtain rfl := ret1 H
                exact X.ret1 rfl rfl rfl rfl (Res.tmp rfl) Pick.nil ⟨rfl, rfl⟩
              ·
                refine T.condPF rfl g110 ?_
                refine T.skip ?_
                refine X.block_normal ?_
                refine X.seq_normal ?_
                obtain ⟨g111, H⟩ := gd_some H
                refine T.regionL (ll := [0, 1]) rfl ?_
                refine TO.addG g111 rfl rfl rfl rfl rfl ?_
                refine TO.move rfl rfl rfl rfl ?_
                refine TO.done ?_
                have H := loop_next H C_1
                exact X.againE2 n_1 (x101 + 1) H (Nat.lt_succ_self _) (AllF.cons rfl (AllF.cons rfl (AllF.cons rfl (AllF.cons rfl (AllF.cons rfl (AllF.cons rfl (AllF.cons rfl (AllF.cons rfl (AllF.cons rfl AllF.nil))))))))) (Pick.cons (Take.head _ _) (Pick.cons (Take.head _ _) (Pick.cons (Take.head _ _) (Pick.cons (Take.head _ _) (Pick.cons (Take.head _ _) (Pick.cons (Take.head _ _) (Pick.cons (Take.head _ _) (Pick.cons (Take.head _ _) (Pick.cons (Take.head _ _) (Pick.cons (Take.head _ _) (Pick.cons (Take.head _ _) Pick.nil)))))))))))
          ·
            refine T.condPF rfl g102 ?_
            refine T.exit ?_
            refine X.then_exit ?_
            have H := loop_exitE H C_1 ▸ K_1
            refine X.then_exit ?_
            refine X.block_here ?_
            exact X.metE1 () H (AllF.cons rfl (AllF.cons rfl (AllF.cons rfl (AllF.cons rfl (AllF.cons rfl (AllF.cons rfl AllF.nil)))))) (Pick.cons (Take.head _ _) (Pick.cons (Take.head _ _) (Pick.cons (Take.head _ _) (Pick.cons (Take.head _ _) (Pick.cons (Take.head _ _) (Pick.cons (Take.head _ _) (Pick.cons (Take.head _ _) (Pick.cons (Take.head _ _) (Pick.cons (Take.head _ _) (Pick.cons (Take.head _ _) (Pick.cons (Take.head _ _) Pick.nil)))))))))))
        · rintro u112 H
          unfold m_acequialaw02_CsrBack_j2 at H
          refine T.seq ?_
          obtain ⟨⟨r113, r114⟩, e115, H⟩ := bd_some H
          refine T.regionL (ll := [0, 1, 2, 3, 4, 5, 6, 7, 8, 9]) rfl ?_
          refine TO.loadA rfl rfl rfl rfl TWLCsrBack.a33 (List.Mem.tail _ (List.Mem.tail _ (List.Mem.tail _ (List.Mem.head _)))) rfl ?_
          refine TO.move rfl rfl rfl rfl ?_
          refine TO.move rfl rfl rfl rfl ?_
          refine TO.lenX (xs := r14) hn20 rfl rfl rfl rfl rfl TWLCsrBack.l25 ?_
          refine TO.callX TWLCsrBack.c24 rfl rfl rfl rfl (fun wc hwc => w_csr_Flow (c0 := r25) (res1 := r84) (arcs2 := (r14.length : Int)) wc (hwc.rs (f := (intC .i64)) (s := 1) (xs := r25.First) (j := j31) (fun _ => rfl) (List.Mem.tail _ (List.Mem.tail _ (List.Mem.tail _ (List.Mem.tail _ (List.Mem.head _))))) hn52 hc53 hz55) (hwc.rs (f := (intC .i64)) (s := 1) (xs := r25.Head) (j := j35) (fun _ => rfl) (List.Mem.tail _ (List.Mem.tail _ (List.Mem.tail _ (List.Mem.tail _ (List.Mem.tail _ (List.Mem.head _)))))) hn56 hc57 hz59) (hwc.rs (f := (intC .i64)) (s := 1) (xs := r25.Rev) (j := j39) (fun _ => rfl) (List.Mem.tail _ (List.Mem.tail _ (List.Mem.tail _ (List.Mem.tail _ (List.Mem.tail _ (List.Mem.tail _ (List.Mem.head _))))))) hn60 hc61 hz63) (hwc.rs (f := (intC .i64)) (s := 1) (xs := r25.Cap) (j := j43) (fun _ => rfl) (List.Mem.tail _ (List.Mem.tail _ (List.Mem.tail _ (List.Mem.tail _ (List.Mem.tail _ (List.Mem.tail _ (List.Mem.tail _ (List.Mem.head _)))))))) hn64 hc65 hz67) (hwc.rs (f := (intC .i64)) (s := 1) (xs := r25.Arc) (j := j47) (fun _ => rfl) (List.Mem.tail _ (List.Mem.tail _ (List.Mem.tail _ (List.Mem.tail _ (List.Mem.tail _ (List.Mem.tail _ (List.Mem.tail _ (List.Mem.tail _ (List.Mem.head _))))))))) hn68 hc69 hz71) (hwc.rs (f := boolC) (s := 1) (xs := r25.Back) (j := j51) (fun _ => rfl) (List.Mem.tail _ (List.Mem.tail _ (List.Mem.tail _ (List.Mem.tail _ (List.Mem.tail _ (List.Mem.tail _ (List.Mem.tail _ (List.Mem.tail _ (List.Mem.tail _ (List.Mem.head _)))))))))) hn72 hc73 hz75) (hwc.rs (f := (intC .i64)) (s := 1) (xs := r84) (j := j90) (fun _ => rfl) (List.Mem.tail _ (List.Mem.tail _ (List.Mem.tail _ (List.Mem.tail _ (List.Mem.tail _ (List.Mem.tail _ (List.Mem.tail _ (List.Mem.tail _ (List.Mem.tail _ (List.Mem.tail _ (List.Mem.head _))))))))))) hn91 hc92 hz94) e115) ?_
          rintro _ _ ⟨ob116, n117, c118, j119, rfl, rfl, hn120, hc121, hj122, hz123⟩
          refine TO.move rfl rfl rfl rfl ?_
          refine TO.extract rfl rfl rfl rfl rfl ?_
          refine TO.extract rfl rfl rfl rfl rfl ?_
          refine TO.assign rfl rfl rfl rfl ?_
          refine TO.assign rfl rfl rfl rfl ?_
          refine TO.done ?_
          refine X.seq_normal ?_
          refine T.seq ?_
          refine T.seq ?_
          rcases ite_some H with ⟨g125, H⟩ | ⟨g125, H⟩
          ·
            refine T.regionL (ll := [0, 1, 2, 3, 4, 5, 6, 7]) rfl ?_
            refine TO.move rfl rfl rfl rfl ?_
            refine TO.bin rfl rfl rfl rfl rfl rfl ?_
            refine TO.move rfl rfl rfl rfl ?_
            refine TO.decB (t := 95) (b' := true) rfl (decide_eq_true g125) ?_
            refine TO.shut rfl rfl rfl rfl ?_
            refine TO.shut rfl rfl rfl rfl ?_
            refine TO.shut rfl rfl rfl rfl ?_
            refine TO.shut rfl rfl rfl rfl ?_
            refine TO.pickT rfl rfl rfl rfl rfl ?_
            refine TO.done ?_
            refine X.seq_normal ?_
            refine T.condT rfl rfl ?_
            refine T.seq ?_
            refine T.regionL (ll := [0]) rfl ?_
            refine TO.assign rfl rfl rfl rfl ?_
            refine TO.done ?_
            refine X.seq_normal ?_
            refine T.ret ?_
            refine X.then_ret ?_
            obtain rfl := ret1 H
            exact X.ret1 rfl rfl rfl rfl (Res.tmp rfl) Pick.nil ⟨rfl, rfl⟩
          ·
            obtain ⟨r126, e127, H⟩ := bd_some H
            refine T.regionL (ll := [0, 1, 2, 3, 4, 5, 6, 7]) rfl ?_
            refine TO.move rfl rfl rfl rfl ?_
            refine TO.bin rfl rfl rfl rfl rfl rfl ?_
            refine TO.move rfl rfl rfl rfl ?_
            refine TO.decB (t := 95) (b' := false) rfl (decide_eq_false g125) ?_
            refine TO.move rfl rfl rfl rfl ?_
            refine TO.move rfl rfl rfl rfl ?_
            refine TO.callX TWLCsrBack.c25 rfl rfl rfl rfl (fun wc hwc => w_acequialow_Longs (a0 := r113) (b1 := r14) wc (hwc.rs (f := (intC .i64)) (s := 1) (xs := r113) (j := j119) (fun _ => rfl) (List.Mem.head _) hn120 hc121 hz123) (hwc.rs (f := (intC .i64)) (s := 1) (xs := r14) (j := j19) (fun _ => rfl) (List.Mem.tail _ (List.Mem.tail _ (List.Mem.tail _ (List.Mem.head _)))) hn20 hc21 hz23) e127) ?_
            rintro _ _ ⟨rfl, rfl⟩
            refine TO.not rfl rfl rfl rfl ?_
            refine TO.pickF rfl rfl rfl rfl rfl ?_
            refine TO.done ?_
            refine X.seq_normal ?_
            rcases ite_some H with ⟨g128, H⟩ | ⟨g128, H⟩
            ·
              refine T.condT rfl g128 ?_
              refine T.seq ?_
              refine T.regionL (ll := [0]) rfl ?_
              refine TO.assign rfl rfl rfl rfl ?_
              refine TO.done ?_
              refine X.seq_normal ?_
              refine T.ret ?_
              refine X.then_ret ?_
              obtain rfl := ret1 H
              exact X.ret1 rfl rfl rfl rfl (Res.tmp rfl) Pick.nil ⟨rfl, rfl⟩
            ·
              refine T.condF rfl (Bool.eq_false_iff.2 g128) ?_
              refine T.skip ?_
              refine X.seq_normal ?_
              refine T.seq ?_
              refine T.seq ?_
              refine T.regionL (ll := [0, 1, 2]) rfl ?_
              refine TO.move rfl rfl rfl rfl ?_
              refine TO.lenX (xs := r84) hn91 rfl rfl rfl rfl rfl TWLCsrBack.l25 ?_
              refine TO.bin rfl rfl rfl rfl rfl rfl ?_
              refine TO.done ?_
              refine X.seq_normal ?_
              rcases ite_some H with ⟨g129, H⟩ | ⟨g129, H⟩
              ·
                refine T.condPT rfl g129 ?_
                refine T.seq ?_
                obtain ⟨r130, e131, H⟩ := bd_some H
                refine T.regionL (ll := [0, 1]) rfl ?_
                refine TO.callX TWLCsrBack.c23 rfl rfl rfl rfl (fun wc hwc => w_acequialaw02_awake  wc  e131) ?_
                rintro _ _ ⟨rfl, rfl⟩
                refine TO.assign rfl rfl rfl rfl ?_
                refine TO.done ?_
                refine X.seq_normal ?_
                refine T.ret ?_
                refine X.then_ret ?_
                obtain rfl := ret1 H
                exact X.ret1 rfl rfl rfl rfl (Res.tmp rfl) Pick.nil ⟨rfl, rfl⟩
              ·
                refine T.condPF rfl g129 ?_
                refine T.skip ?_
                refine X.seq_normal ?_
                refine T.seq ?_
                obtain ⟨g132, H⟩ := gd_some H
                obtain ⟨g133, H⟩ := gd_some H
                obtain ⟨g134, H⟩ := gd_some H
                apply T.drawQT [(105, _), (106, _), (107, _), (108, _), (109, _), (110, _), (111, _)]
                · exact mixed
                · kernel_rfl
                · kernel_rfl
                · exact rfl
                · exact rfl
                · refine ⟨?_, ?_, ?_, ?_, ?_, ?_, ?_, trivial⟩
                  · intro Es
                    refine TO.fieldAddr0 rfl rfl rfl rfl TWLCsrBack.f33_7 ?_
                    exact TO.done (X.ob rfl (Pick.refl _))
                  · intro Es
                    refine TO.load1 rfl rfl rfl rfl TWLCsrBack.s30 (List.Mem.tail _ (List.Mem.tail _ (List.Mem.tail _ (List.Mem.tail _ (List.Mem.head _))))) rfl ?_
                    exact TO.done (X.ob rfl (Pick.refl _))
                  · intro Es
                    refine TO.move rfl rfl rfl rfl ?_
                    exact TO.done (X.ob rfl (Pick.refl _))
                  · intro Es
                    refine TO.convIn rfl rfl rfl rfl TWLCsrBack.o5 TWLCsrBack.i3 (wrap_i64_of g132.1 g132.2) ?_
                    exact TO.done (X.ob rfl (Pick.refl _))
                  · intro Es
                    refine TO.move rfl rfl rfl rfl ?_
                    exact TO.done (X.ob rfl (Pick.refl _))
                  · intro Es
                    refine TO.lenX (xs := r84) hn91 rfl rfl rfl rfl rfl TWLCsrBack.l25 ?_
                    exact TO.done (X.ob rfl (Pick.refl _))
                  · intro Es
                    refine TO.rem rfl rfl rfl rfl rfl g133 ?_
                    exact TO.done (X.ob rfl (Pick.refl _))
                refine TO.ixV hz71 hc69 hn68 g134 rfl rfl rfl rfl rfl TWLCsrBack.l30 TWLCsrBack.n3 ?_
                refine TO.ldIV hz71 hc69 hn68 g134 rfl rfl rfl rfl TWLCsrBack.s3 (List.Mem.tail _ (List.Mem.tail _ (List.Mem.tail _ (List.Mem.tail _ (List.Mem.tail _ (List.Mem.tail _ (List.Mem.tail _ (List.Mem.tail _ (List.Mem.tail _ (List.Mem.head _)))))))))) ?_
                refine TO.assign rfl rfl rfl rfl ?_
                refine TO.done ?_
                refine X.seq_normal ?_
                refine T.seq ?_
                obtain ⟨g135, H⟩ := gd_some H
                refine T.regionL (ll := [0, 1, 2, 3, 4]) rfl ?_
                refine TO.move rfl rfl rfl rfl ?_
                refine TO.move rfl rfl rfl rfl ?_
                refine TO.move rfl rfl rfl rfl ?_
                refine TO.ixV hz23 hc21 hn20 g135 rfl rfl rfl rfl rfl TWLCsrBack.l25 TWLCsrBack.n2 ?_
                refine TO.stIV hz23 hc21 hn20 g135 rfl rfl rfl rfl (Take.tail (Take.tail (Take.tail (Take.head _ _)))) TWLCsrBack.n2 ?_
                refine TO.done ?_
                refine X.seq_normal ?_
                refine T.seq ?_
                obtain ⟨⟨r136, r137⟩, e138, H⟩ := bd_some H
                refine T.regionL (ll := [0, 1, 2, 3, 4, 5, 6, 7]) rfl ?_
                refine TO.loadA rfl rfl rfl rfl TWLCsrBack.a33 (List.Mem.tail _ (List.Mem.tail _ (List.Mem.tail _ (List.Mem.tail _ (List.Mem.head _))))) rfl ?_
                refine TO.move rfl rfl rfl rfl ?_
                refine TO.callX TWLCsrBack.c20 rfl rfl rfl rfl (fun wc hwc => w_csr_Res (c0 := r25) (f1 := (r14.set (r25.Arc.getD (at2.tmod (r84.length : Int)).toNat 0).toNat by3)) wc (hwc.rs (f := (intC .i64)) (s := 1) (xs := r25.First) (j := j31) (fun _ => rfl) (List.Mem.tail _ (List.Mem.tail _ (List.Mem.tail _ (List.Mem.tail _ (List.Mem.tail _ (List.Mem.head _)))))) hn52 hc53 hz55) (hwc.rs (f := (intC .i64)) (s := 1) (xs := r25.Head) (j := j35) (fun _ => rfl) (List.Mem.tail _ (List.Mem.tail _ (List.Mem.tail _ (List.Mem.tail _ (List.Mem.tail _ (List.Mem.tail _ (List.Mem.head _))))))) hn56 hc57 hz59) (hwc.rs (f := (intC .i64)) (s := 1) (xs := r25.Rev) (j := j39) (fun _ => rfl) (List.Mem.tail _ (List.Mem.tail _ (List.Mem.tail _ (List.Mem.tail _ (List.Mem.tail _ (List.Mem.tail _ (List.Mem.tail _ (List.Mem.head _)))))))) hn60 hc61 hz63) (hwc.rs (f := (intC .i64)) (s := 1) (xs := r25.Cap) (j := j43) (fun _ => rfl) (List.Mem.tail _ (List.Mem.tail _ (List.Mem.tail _ (List.Mem.tail _ (List.Mem.tail _ (List.Mem.tail _ (List.Mem.tail _ (List.Mem.tail _ (List.Mem.head _))))))))) hn64 hc65 hz67) (hwc.rs (f := (intC .i64)) (s := 1) (xs := r25.Arc) (j := j47) (fun _ => rfl) (List.Mem.tail _ (List.Mem.tail _ (List.Mem.tail _ (List.Mem.tail _ (List.Mem.tail _ (List.Mem.tail _ (List.Mem.tail _ (List.Mem.tail _ (List.Mem.tail _ (List.Mem.head _)))))))))) hn68 hc69 hz71) (hwc.rs (f := boolC) (s := 1) (xs := r25.Back) (j := j51) (fun _ => rfl) (List.Mem.tail _ (List.Mem.tail _ (List.Mem.tail _ (List.Mem.tail _ (List.Mem.tail _ (List.Mem.tail _ (List.Mem.tail _ (List.Mem.tail _ (List.Mem.tail _ (List.Mem.tail _ (List.Mem.head _))))))))))) hn72 hc73 hz75) (hwc.rs (f := (intC .i64)) (s := 1) (xs := (r14.set (r25.Arc.getD (at2.tmod (r84.length : Int)).toNat 0).toNat by3)) (j := j19) (fun _ => rfl) (List.Mem.head _) (List.length_set.trans hn20) hc21 hz23) e138) ?_
                rintro _ _ ⟨ob139, n140, c141, j142, rfl, rfl, hn143, hc144, hj145, hz146⟩
                refine TO.move rfl rfl rfl rfl ?_
                refine TO.extract rfl rfl rfl rfl rfl ?_
                refine TO.extract rfl rfl rfl rfl rfl ?_
                refine TO.assign rfl rfl rfl rfl ?_
                refine TO.assign rfl rfl rfl rfl ?_
                refine TO.done ?_
                refine X.seq_normal ?_
                refine T.seq ?_
                obtain ⟨g148, H⟩ := gd_some H
                obtain ⟨g149, H⟩ := gd_some H
                obtain ⟨g150, H⟩ := gd_some H
                obtain ⟨g151, H⟩ := gd_some H
                obtain ⟨g152, H⟩ := gd_some H
                refine T.regionL (ll := [0, 1, 2, 3, 4, 5, 6, 7, 8, 9, 10]) rfl ?_
                refine TO.move rfl rfl rfl rfl ?_
                refine TO.move rfl rfl rfl rfl ?_
                refine TO.convIn rfl rfl rfl rfl TWLCsrBack.o5 TWLCsrBack.i3 (wrap_i64_of g148.1 g148.2) ?_
                refine TO.move rfl rfl rfl rfl ?_
                refine TO.lenX (xs := r84) hn91 rfl rfl rfl rfl rfl TWLCsrBack.l25 ?_
                refine TO.rem rfl rfl rfl rfl rfl g149 ?_
                refine TO.ixV hz94 hc92 hn91 g150 rfl rfl rfl rfl rfl TWLCsrBack.l25 TWLCsrBack.n2 ?_
                refine TO.ldIV hz94 hc92 hn91 g150 rfl rfl rfl rfl TWLCsrBack.s2 (List.Mem.tail _ (List.Mem.tail _ (List.Mem.tail _ (List.Mem.tail _ (List.Mem.tail _ (List.Mem.tail _ (List.Mem.tail _ (List.Mem.tail _ (List.Mem.tail _ (List.Mem.tail _ (List.Mem.tail _ (List.Mem.tail _ (List.Mem.head _))))))))))))) ?_
                refine TO.addG g151 rfl rfl rfl rfl rfl ?_
                refine TO.ixV hz94 hc92 hn91 g152 rfl rfl rfl rfl rfl TWLCsrBack.l25 TWLCsrBack.n2 ?_
                refine TO.stIV hz94 hc92 hn91 g152 rfl rfl rfl rfl (Take.tail (Take.tail (Take.tail (Take.tail (Take.tail (Take.tail (Take.tail (Take.tail (Take.tail (Take.tail (Take.tail (Take.tail (Take.head _ _))))))))))))) TWLCsrBack.n2 ?_
                refine TO.done ?_
                refine X.seq_normal ?_
                refine T.seq ?_
                obtain ⟨⟨r153, r154⟩, e155, H⟩ := bd_some H
                refine T.regionL (ll := [0, 1, 2, 3, 4, 5, 6, 7, 8, 9]) rfl ?_
                refine TO.loadA rfl rfl rfl rfl TWLCsrBack.a33 (List.Mem.tail _ (List.Mem.tail _ (List.Mem.tail _ (List.Mem.tail _ (List.Mem.tail _ (List.Mem.tail _ (List.Mem.head _))))))) rfl ?_
                refine TO.move rfl rfl rfl rfl ?_
                refine TO.move rfl rfl rfl rfl ?_
                refine TO.lenX (xs := (r14.set (r25.Arc.getD (at2.tmod (r84.length : Int)).toNat 0).toNat by3)) (List.length_set.trans hn20) rfl rfl rfl rfl rfl TWLCsrBack.l25 ?_
                refine TO.callX TWLCsrBack.c24 rfl rfl rfl rfl (fun wc hwc => w_csr_Flow (c0 := r25) (res1 := (r84.set (at2.tmod (r84.length : Int)).toNat ((r84.getD (at2.tmod (r84.length : Int)).toNat 0) + 1))) (arcs2 := ((r14.set (r25.Arc.getD (at2.tmod (r84.length : Int)).toNat 0).toNat by3).length : Int)) wc (hwc.rs (f := (intC .i64)) (s := 1) (xs := r25.First) (j := j31) (fun _ => rfl) (List.Mem.tail _ (List.Mem.tail _ (List.Mem.tail _ (List.Mem.tail _ (List.Mem.tail _ (List.Mem.tail _ (List.Mem.tail _ (List.Mem.head _)))))))) hn52 hc53 hz55) (hwc.rs (f := (intC .i64)) (s := 1) (xs := r25.Head) (j := j35) (fun _ => rfl) (List.Mem.tail _ (List.Mem.tail _ (List.Mem.tail _ (List.Mem.tail _ (List.Mem.tail _ (List.Mem.tail _ (List.Mem.tail _ (List.Mem.tail _ (List.Mem.head _))))))))) hn56 hc57 hz59) (hwc.rs (f := (intC .i64)) (s := 1) (xs := r25.Rev) (j := j39) (fun _ => rfl) (List.Mem.tail _ (List.Mem.tail _ (List.Mem.tail _ (List.Mem.tail _ (List.Mem.tail _ (List.Mem.tail _ (List.Mem.tail _ (List.Mem.tail _ (List.Mem.tail _ (List.Mem.head _)))))))))) hn60 hc61 hz63) (hwc.rs (f := (intC .i64)) (s := 1) (xs := r25.Cap) (j := j43) (fun _ => rfl) (List.Mem.tail _ (List.Mem.tail _ (List.Mem.tail _ (List.Mem.tail _ (List.Mem.tail _ (List.Mem.tail _ (List.Mem.tail _ (List.Mem.tail _ (List.Mem.tail _ (List.Mem.tail _ (List.Mem.head _))))))))))) hn64 hc65 hz67) (hwc.rs (f := (intC .i64)) (s := 1) (xs := r25.Arc) (j := j47) (fun _ => rfl) (List.Mem.tail _ (List.Mem.tail _ (List.Mem.tail _ (List.Mem.tail _ (List.Mem.tail _ (List.Mem.tail _ (List.Mem.tail _ (List.Mem.tail _ (List.Mem.tail _ (List.Mem.tail _ (List.Mem.tail _ (List.Mem.head _)))))))))))) hn68 hc69 hz71) (hwc.rs (f := boolC) (s := 1) (xs := r25.Back) (j := j51) (fun _ => rfl) (List.Mem.tail _ (List.Mem.tail _ (List.Mem.tail _ (List.Mem.tail _ (List.Mem.tail _ (List.Mem.tail _ (List.Mem.tail _ (List.Mem.tail _ (List.Mem.tail _ (List.Mem.tail _ (List.Mem.tail _ (List.Mem.tail _ (List.Mem.head _))))))))))))) hn72 hc73 hz75) (hwc.rs (f := (intC .i64)) (s := 1) (xs := (r84.set (at2.tmod (r84.length : Int)).toNat ((r84.getD (at2.tmod (r84.length : Int)).toNat 0) + 1))) (j := j90) (fun _ => rfl) (List.Mem.head _) (List.length_set.trans hn91) hc92 hz94) e155) ?_
                rintro _ _ ⟨ob156, n157, c158, j159, rfl, rfl, hn160, hc161, hj162, hz163⟩
                refine TO.move rfl rfl rfl rfl ?_
                refine TO.extract rfl rfl rfl rfl rfl ?_
                refine TO.extract rfl rfl rfl rfl rfl ?_
                refine TO.assign rfl rfl rfl rfl ?_
                refine TO.assign rfl rfl rfl rfl ?_
                refine TO.done ?_
                refine X.seq_normal ?_
                refine T.seq ?_
                rcases ite_some H with ⟨g165, H⟩ | ⟨g165, H⟩
                ·
                  obtain ⟨g166, H⟩ := gd_some H
                  rcases ite_some H with ⟨g167, H⟩ | ⟨g167, H⟩
                  ·
                    rcases ite_some H with ⟨g168, H⟩ | ⟨g168, H⟩
                    ·
                      obtain ⟨r169, e170, H⟩ := bd_some H
                      refine T.regionL (ll := [0, 1, 2, 3, 4, 5, 6, 7, 8, 9, 10, 11, 12, 13, 14, 15, 16, 17, 18, 19, 20, 21, 22]) rfl ?_
                      refine TO.move rfl rfl rfl rfl ?_
                      refine TO.bin rfl rfl rfl rfl rfl rfl ?_
                      refine TO.move rfl rfl rfl rfl ?_
                      refine TO.bin rfl rfl rfl rfl rfl rfl ?_
                      refine TO.move rfl rfl rfl rfl ?_
                      refine TO.decB (t := 146) (b' := true) rfl (decide_eq_true g165) ?_
                      refine TO.move rfl rfl rfl rfl ?_
                      refine TO.fieldAddr0 rfl rfl rfl rfl TWLCsrBack.f24_3 ?_
                      refine TO.load1 rfl rfl rfl rfl TWLCsrBack.s22 (List.Mem.tail _ (List.Mem.tail _ (List.Mem.tail _ (List.Mem.tail _ (List.Mem.tail _ (List.Mem.head _)))))) rfl ?_
                      refine TO.move rfl rfl rfl rfl ?_
                      refine TO.ixV hz12 hc10 hn9 g166 rfl rfl rfl rfl rfl TWLCsrBack.l22 TWLCsrBack.n28 ?_
                      refine TO.faR rfl rfl rfl rfl TWLCsrBack.f28_2 ?_
                      refine TO.ldFV (f := arcC) (v := .int .i64 ((r3.Arcs.getD (r25.Arc.getD (at2.tmod (r84.length : Int)).toNat 0).toNat default).cap)) default (fun _ => rfl) hz12 hc10 hn9 g166 rfl rfl rfl rfl rfl TWLCsrBack.s2 (List.Mem.tail _ (List.Mem.tail _ (List.Mem.tail _ (List.Mem.tail _ (List.Mem.tail _ (List.Mem.tail _ (List.Mem.head _))))))) ?_
                      refine TO.bin rfl rfl rfl rfl rfl rfl ?_
                      refine TO.pickT rfl rfl rfl rfl rfl ?_
                      refine TO.eqb rfl rfl rfl rfl rfl TWLCsrBack.u4 ?_
                      refine TO.move rfl rfl rfl rfl ?_
                      refine TO.decB (t := 157) (b' := true) rfl g167 ?_
                      refine TO.move rfl rfl rfl rfl ?_
                      refine TO.bin rfl rfl rfl rfl rfl rfl ?_
                      refine TO.pickT rfl rfl rfl rfl rfl ?_
                      refine TO.move rfl rfl rfl rfl ?_
                      refine TO.decB (t := 161) (b' := true) rfl (decide_eq_true g168) ?_
                      refine TO.callX TWLCsrBack.c23 rfl rfl rfl rfl (fun wc hwc => w_acequialaw02_awake  wc  e170) ?_
                      rintro _ _ ⟨rfl, rfl⟩
                      refine TO.pickT rfl rfl rfl rfl rfl ?_
                      refine TO.assign rfl rfl rfl rfl ?_
                      refine TO.done ?_
                      refine X.seq_normal ?_
                      refine T.ret ?_
                      obtain rfl := ret1 H
                      exact X.ret1 rfl rfl rfl rfl (Res.tmp rfl) Pick.nil ⟨rfl, rfl⟩
                    ·
                      refine T.regionL (ll := [0, 1, 2, 3, 4, 5, 6, 7, 8, 9, 10, 11, 12, 13, 14, 15, 16, 17, 18, 19, 20, 21, 22]) rfl ?_
                      refine TO.move rfl rfl rfl rfl ?_
                      refine TO.bin rfl rfl rfl rfl rfl rfl ?_
                      refine TO.move rfl rfl rfl rfl ?_
                      refine TO.bin rfl rfl rfl rfl rfl rfl ?_
                      refine TO.move rfl rfl rfl rfl ?_
                      refine TO.decB (t := 146) (b' := true) rfl (decide_eq_true g165) ?_
                      refine TO.move rfl rfl rfl rfl ?_
                      refine TO.fieldAddr0 rfl rfl rfl rfl TWLCsrBack.f24_3 ?_
                      refine TO.load1 rfl rfl rfl rfl TWLCsrBack.s22 (List.Mem.tail _ (List.Mem.tail _ (List.Mem.tail _ (List.Mem.tail _ (List.Mem.tail _ (List.Mem.head _)))))) rfl ?_
                      refine TO.move rfl rfl rfl rfl ?_
                      refine TO.ixV hz12 hc10 hn9 g166 rfl rfl rfl rfl rfl TWLCsrBack.l22 TWLCsrBack.n28 ?_
                      refine TO.faR rfl rfl rfl rfl TWLCsrBack.f28_2 ?_
                      refine TO.ldFV (f := arcC) (v := .int .i64 ((r3.Arcs.getD (r25.Arc.getD (at2.tmod (r84.length : Int)).toNat 0).toNat default).cap)) default (fun _ => rfl) hz12 hc10 hn9 g166 rfl rfl rfl rfl rfl TWLCsrBack.s2 (List.Mem.tail _ (List.Mem.tail _ (List.Mem.tail _ (List.Mem.tail _ (List.Mem.tail _ (List.Mem.tail _ (List.Mem.head _))))))) ?_
                      refine TO.bin rfl rfl rfl rfl rfl rfl ?_
                      refine TO.pickT rfl rfl rfl rfl rfl ?_
                      refine TO.eqb rfl rfl rfl rfl rfl TWLCsrBack.u4 ?_
                      refine TO.move rfl rfl rfl rfl ?_
                      refine TO.decB (t := 157) (b' := true) rfl g167 ?_
                      refine TO.move rfl rfl rfl rfl ?_
                      refine TO.bin rfl rfl rfl rfl rfl rfl ?_
                      refine TO.pickT rfl rfl rfl rfl rfl ?_
                      refine TO.move rfl rfl rfl rfl ?_
                      refine TO.decB (t := 161) (b' := false) rfl (decide_eq_false g168) ?_
                      refine TO.shut rfl rfl rfl rfl ?_
                      refine TO.pickF rfl rfl rfl rfl rfl ?_
                      refine TO.assign rfl rfl rfl rfl ?_
                      refine TO.done ?_
                      refine X.seq_normal ?_
                      refine T.ret ?_
                      obtain rfl := ret1 H
                      exact X.ret1 rfl rfl rfl rfl (Res.tmp rfl) Pick.nil ⟨rfl, rfl⟩
                  ·
                    refine T.regionL (ll := [0, 1, 2, 3, 4, 5, 6, 7, 8, 9, 10, 11, 12, 13, 14, 15, 16, 17, 18, 19, 20, 21, 22]) rfl ?_
                    refine TO.move rfl rfl rfl rfl ?_
                    refine TO.bin rfl rfl rfl rfl rfl rfl ?_
                    refine TO.move rfl rfl rfl rfl ?_
                    refine TO.bin rfl rfl rfl rfl rfl rfl ?_
                    refine TO.move rfl rfl rfl rfl ?_
                    refine TO.decB (t := 146) (b' := true) rfl (decide_eq_true g165) ?_
                    refine TO.move rfl rfl rfl rfl ?_
                    refine TO.fieldAddr0 rfl rfl rfl rfl TWLCsrBack.f24_3 ?_
                    refine TO.load1 rfl rfl rfl rfl TWLCsrBack.s22 (List.Mem.tail _ (List.Mem.tail _ (List.Mem.tail _ (List.Mem.tail _ (List.Mem.tail _ (List.Mem.head _)))))) rfl ?_
                    refine TO.move rfl rfl rfl rfl ?_
                    refine TO.ixV hz12 hc10 hn9 g166 rfl rfl rfl rfl rfl TWLCsrBack.l22 TWLCsrBack.n28 ?_
                    refine TO.faR rfl rfl rfl rfl TWLCsrBack.f28_2 ?_
                    refine TO.ldFV (f := arcC) (v := .int .i64 ((r3.Arcs.getD (r25.Arc.getD (at2.tmod (r84.length : Int)).toNat 0).toNat default).cap)) default (fun _ => rfl) hz12 hc10 hn9 g166 rfl rfl rfl rfl rfl TWLCsrBack.s2 (List.Mem.tail _ (List.Mem.tail _ (List.Mem.tail _ (List.Mem.tail _ (List.Mem.tail _ (List.Mem.tail _ (List.Mem.head _))))))) ?_
                    refine TO.bin rfl rfl rfl rfl rfl rfl ?_
                    refine TO.pickT rfl rfl rfl rfl rfl ?_
                    refine TO.eqb rfl rfl rfl rfl rfl TWLCsrBack.u4 ?_
                    refine TO.move rfl rfl rfl rfl ?_
                    refine TO.decB (t := 157) (b' := false) rfl (Bool.eq_false_iff.2 g167) ?_
                    refine TO.shut rfl rfl rfl rfl ?_
                    refine TO.shut rfl rfl rfl rfl ?_
                    refine TO.pickF rfl rfl rfl rfl rfl ?_
                    refine TO.move rfl rfl rfl rfl ?_
                    refine TO.shut rfl rfl rfl rfl ?_
                    refine TO.pickF rfl rfl rfl rfl rfl ?_
                    refine TO.assign rfl rfl rfl rfl ?_
                    refine TO.done ?_
                    refine X.seq_normal ?_
                    refine T.ret ?_
                    obtain rfl := ret1 H
                    exact X.ret1 rfl rfl rfl rfl (Res.tmp rfl) Pick.nil ⟨rfl, rfl⟩
                ·
                  rcases ite_some H with ⟨g171, H⟩ | ⟨g171, H⟩
                  ·
                    rcases ite_some H with ⟨g172, H⟩ | ⟨g172, H⟩
                    ·
                      obtain ⟨r173, e174, H⟩ := bd_some H
                      refine T.regionL (ll := [0, 1, 2, 3, 4, 5, 6, 7, 8, 9, 10, 11, 12, 13, 14, 15, 16, 17, 18, 19, 20, 21, 22]) rfl ?_
                      refine TO.move rfl rfl rfl rfl ?_
                      refine TO.bin rfl rfl rfl rfl rfl rfl ?_
                      refine TO.move rfl rfl rfl rfl ?_
                      refine TO.bin rfl rfl rfl rfl rfl rfl ?_
                      refine TO.move rfl rfl rfl rfl ?_
                      refine TO.decB (t := 146) (b' := false) rfl (decide_eq_false g165) ?_
                      refine TO.shut rfl rfl rfl rfl ?_
                      refine TO.shut rfl rfl rfl rfl ?_
                      refine TO.shut rfl rfl rfl rfl ?_
                      refine TO.shut rfl rfl rfl rfl ?_
                      refine TO.shut rfl rfl rfl rfl ?_
                      refine TO.shut rfl rfl rfl rfl ?_
                      refine TO.shut rfl rfl rfl rfl ?_
                      refine TO.shut rfl rfl rfl rfl ?_
                      refine TO.pickF rfl rfl rfl rfl rfl ?_
                      refine TO.eqb rfl rfl rfl rfl rfl TWLCsrBack.u4 ?_
                      refine TO.move rfl rfl rfl rfl ?_
                      refine TO.decB (t := 157) (b' := true) rfl g171 ?_
                      refine TO.move rfl rfl rfl rfl ?_
                      refine TO.bin rfl rfl rfl rfl rfl rfl ?_
                      refine TO.pickT rfl rfl rfl rfl rfl ?_
                      refine TO.move rfl rfl rfl rfl ?_
                      refine TO.decB (t := 161) (b' := true) rfl (decide_eq_true g172) ?_
                      refine TO.callX TWLCsrBack.c23 rfl rfl rfl rfl (fun wc hwc => w_acequialaw02_awake  wc  e174) ?_
                      rintro _ _ ⟨rfl, rfl⟩
                      refine TO.pickT rfl rfl rfl rfl rfl ?_
                      refine TO.assign rfl rfl rfl rfl ?_
                      refine TO.done ?_
                      refine X.seq_normal ?_
                      refine T.ret ?_
                      obtain rfl := ret1 H
                      exact X.ret1 rfl rfl rfl rfl (Res.tmp rfl) Pick.nil ⟨rfl, rfl⟩
                    ·
                      refine T.regionL (ll := [0, 1, 2, 3, 4, 5, 6, 7, 8, 9, 10, 11, 12, 13, 14, 15, 16, 17, 18, 19, 20, 21, 22]) rfl ?_
                      refine TO.move rfl rfl rfl rfl ?_
                      refine TO.bin rfl rfl rfl rfl rfl rfl ?_
                      refine TO.move rfl rfl rfl rfl ?_
                      refine TO.bin rfl rfl rfl rfl rfl rfl ?_
                      refine TO.move rfl rfl rfl rfl ?_
                      refine TO.decB (t := 146) (b' := false) rfl (decide_eq_false g165) ?_
                      refine TO.shut rfl rfl rfl rfl ?_
                      refine TO.shut rfl rfl rfl rfl ?_
                      refine TO.shut rfl rfl rfl rfl ?_
                      refine TO.shut rfl rfl rfl rfl ?_
                      refine TO.shut rfl rfl rfl rfl ?_
                      refine TO.shut rfl rfl rfl rfl ?_
                      refine TO.shut rfl rfl rfl rfl ?_
                      refine TO.shut rfl rfl rfl rfl ?_
                      refine TO.pickF rfl rfl rfl rfl rfl ?_
                      refine TO.eqb rfl rfl rfl rfl rfl TWLCsrBack.u4 ?_
                      refine TO.move rfl rfl rfl rfl ?_
                      refine TO.decB (t := 157) (b' := true) rfl g171 ?_
                      refine TO.move rfl rfl rfl rfl ?_
                      refine TO.bin rfl rfl rfl rfl rfl rfl ?_
                      refine TO.pickT rfl rfl rfl rfl rfl ?_
                      refine TO.move rfl rfl rfl rfl ?_
                      refine TO.decB (t := 161) (b' := false) rfl (decide_eq_false g172) ?_
                      refine TO.shut rfl rfl rfl rfl ?_
                      refine TO.pickF rfl rfl rfl rfl rfl ?_
                      refine TO.assign rfl rfl rfl rfl ?_
                      refine TO.done ?_
                      refine X.seq_normal ?_
                      refine T.ret ?_
                      obtain rfl := ret1 H
                      exact X.ret1 rfl rfl rfl rfl (Res.tmp rfl) Pick.nil ⟨rfl, rfl⟩
                  ·
                    refine T.regionL (ll := [0, 1, 2, 3, 4, 5, 6, 7, 8, 9, 10, 11, 12, 13, 14, 15, 16, 17, 18, 19, 20, 21, 22]) rfl ?_
                    refine TO.move rfl rfl rfl rfl ?_
                    refine TO.bin rfl rfl rfl rfl rfl rfl ?_
                    refine TO.move rfl rfl rfl rfl ?_
                    refine TO.bin rfl rfl rfl rfl rfl rfl ?_
                    refine TO.move rfl rfl rfl rfl ?_
                    refine TO.decB (t := 146) (b' := false) rfl (decide_eq_false g165) ?_
                    refine TO.shut rfl rfl rfl rfl ?_
                    refine TO.shut rfl rfl rfl rfl ?_
                    refine TO.shut rfl rfl rfl rfl ?_
                    refine TO.shut rfl rfl rfl rfl ?_
                    refine TO.shut rfl rfl rfl rfl ?_
                    refine TO.shut rfl rfl rfl rfl ?_
                    refine TO.shut rfl rfl rfl rfl ?_
                    refine TO.shut rfl rfl rfl rfl ?_
                    refine TO.pickF rfl rfl rfl rfl rfl ?_
                    refine TO.eqb rfl rfl rfl rfl rfl TWLCsrBack.u4 ?_
                    refine TO.move rfl rfl rfl rfl ?_
                    refine TO.decB (t := 157) (b' := false) rfl (Bool.eq_false_iff.2 g171) ?_
                    refine TO.shut rfl rfl rfl rfl ?_
                    refine TO.shut rfl rfl rfl rfl ?_
                    refine TO.pickF rfl rfl rfl rfl rfl ?_
                    refine TO.move rfl rfl rfl rfl ?_
                    refine TO.shut rfl rfl rfl rfl ?_
                    refine TO.pickF rfl rfl rfl rfl rfl ?_
                    refine TO.assign rfl rfl rfl rfl ?_
                    refine TO.done ?_
                    refine X.seq_normal ?_
                    refine T.ret ?_
                    obtain rfl := ret1 H
                    exact X.ret1 rfl rfl rfl rfl (Res.tmp rfl) Pick.nil ⟨rfl, rfl⟩
end Go.Proofs.Ytcdbemdogkmahaa.Ax
