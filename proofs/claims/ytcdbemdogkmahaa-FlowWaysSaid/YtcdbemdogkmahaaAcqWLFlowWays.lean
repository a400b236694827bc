/- What a call does is what its model says: acequialaw03.FlowWays. (Printed by sx.py.) -/
import Derived.Test.YtcdbemdogkmahaaAcqMLFlowWays
import Derived.Test.YtcdbemdogkmahaaAcqRw
import Derived.Test.YtcdbemdogkmahaaAcqWS3
namespace Go.Proofs.Ytcdbemdogkmahaa.Ax
open Go Go.Acq Go.RowKit Go.Proofs
set_option linter.unusedVariables false
set_option linter.unusedSimpArgs false
set_option maxHeartbeats 8000000
set_option maxRecDepth 20000
theorem TWLFlowWays.a24 : aggT Try.prog 24 4 = true := by kernel_rfl
theorem TWLFlowWays.b60 : bytesT Try.prog 60 = some 16 := by kernel_rfl
theorem TWLFlowWays.c17 : callable Try.prog 17 = true := by kernel_rfl
theorem TWLFlowWays.c18 : callable Try.prog 18 = true := by kernel_rfl
theorem TWLFlowWays.c25 : callable Try.prog 25 = true := by kernel_rfl
theorem TWLFlowWays.c30 : callable Try.prog 30 = true := by kernel_rfl
theorem TWLFlowWays.c32 : callable Try.prog 32 = true := by kernel_rfl
theorem TWLFlowWays.c33 : callable Try.prog 33 = true := by kernel_rfl
theorem TWLFlowWays.c34 : callable Try.prog 34 = true := by kernel_rfl
theorem TWLFlowWays.c35 : callable Try.prog 35 = true := by kernel_rfl
theorem TWLFlowWays.f24_0 : fieldT Try.prog 24 0 = some 0 := by kernel_rfl
theorem TWLFlowWays.f24_3 : fieldT Try.prog 24 3 = some 3 := by kernel_rfl
theorem TWLFlowWays.f28_0 : fieldT Try.prog 28 0 = some 0 := by kernel_rfl
theorem TWLFlowWays.f28_2 : fieldT Try.prog 28 2 = some 2 := by kernel_rfl
theorem TWLFlowWays.f60_0 : fieldT Try.prog 60 0 = some 0 := by kernel_rfl
theorem TWLFlowWays.f60_1 : fieldT Try.prog 60 1 = some 1 := by kernel_rfl
theorem TWLFlowWays.i3 : intT Try.prog 3 = some .i64 := by kernel_rfl
theorem TWLFlowWays.l22 : sliceT Try.prog 22 = some 28 := by kernel_rfl
theorem TWLFlowWays.l25 : sliceT Try.prog 25 = some 2 := by kernel_rfl
theorem TWLFlowWays.l52 : sliceT Try.prog 52 = some 5 := by kernel_rfl
theorem TWLFlowWays.l54 : sliceT Try.prog 54 = some 60 := by kernel_rfl
theorem TWLFlowWays.n2 : sizeT Try.prog 2 = some 1 := by kernel_rfl
theorem TWLFlowWays.n24 : sizeT Try.prog 24 = some 4 := by kernel_rfl
theorem TWLFlowWays.n28 : sizeT Try.prog 28 = some 3 := by kernel_rfl
theorem TWLFlowWays.n5 : sizeT Try.prog 5 = some 1 := by kernel_rfl
theorem TWLFlowWays.n60 : sizeT Try.prog 60 = some 2 := by kernel_rfl
theorem TWLFlowWays.o5 : (Try.prog.underlying 5).isSome = true := by kernel_rfl
theorem TWLFlowWays.s2 : scalT Try.prog 2 = true := by kernel_rfl
theorem TWLFlowWays.s22 : scalT Try.prog 22 = true := by kernel_rfl
theorem TWLFlowWays.s3 : scalT Try.prog 3 = true := by kernel_rfl
theorem TWLFlowWays.s4 : scalT Try.prog 4 = true := by kernel_rfl
theorem TWLFlowWays.u4 : Try.prog.underlying 4 = some .bool := by kernel_rfl
theorem TWLFlowWays.z60 : zeroT Try.prog 60 = some (.agg #[.int .i64 0, .bool false]) := by kernel_rfl
theorem TWLFlowWaysel54 : ElemT Try.prog 54 60 2 16 (.agg #[.int .i64 0, .bool false]) := ⟨TWLFlowWays.l54, TWLFlowWays.n60, TWLFlowWays.b60, TWLFlowWays.z60, rfl⟩
/-- acequia/acequialaw03.FlowWays -/
theorem w_acequialaw03_FlowWays {n0 : Net} {l1 : List Int} {from2 : Int} {moves3 : List Int} {arc4 : Int} {n0_Arcs_b : Option Addr} {n0_Arcs_n : Nat} {n0_Arcs_c : Nat} {l1_b : Option Addr} {l1_n : Nat} {l1_c : Nat} {moves3_b : Option Addr} {moves3_n : Nat} {moves3_c : Nat} (w : World) (h_n0_Arcs : RS w [] arcC 3 n0_Arcs_b n0_Arcs_n n0_Arcs_c n0.Arcs) (h_l1 : RS w [] (intC .i64) 1 l1_b l1_n l1_c l1) (h_moves3 : RS w [] (intC .u8) 1 moves3_b moves3_n moves3_c moves3) {r0 : Bool} (H : m_acequialaw03_FlowWays n0 l1 from2 moves3 arc4 = some r0) : Fnc Try.prog 8 #[.agg #[.int .i64 n0.N, .int .i64 n0.S, .int .i64 n0.T, .slice n0_Arcs_b n0_Arcs_n n0_Arcs_c], .slice l1_b l1_n l1_c, .int .u8 from2, .slice moves3_b moves3_n moves3_c, .int .i64 arc4] w [] (fun v N => v = .bool r0 ∧ N = []) := by
  unfold m_acequialaw03_FlowWays at H
  refine Fnc.enter (vs := [.agg #[.int .i64 n0.N, .int .i64 n0.S, .int .i64 n0.T, .slice n0_Arcs_b n0_Arcs_n n0_Arcs_c], .slice l1_b l1_n l1_c, .int .u8 from2, .slice moves3_b moves3_n moves3_c, .int .i64 arc4]) Try.func8 rfl rfl (Inv.refl w) ?_
  refine T.seq ?_
  refine T.regionL (ll := [0, 1]) rfl ?_
  refine TO.boxA rfl rfl rfl rfl ?_; intro b1
  refine TO.assign rfl rfl rfl rfl ?_
  refine TO.done ?_
  refine X.seq_normal ?_
  refine T.seq ?_
  obtain ⟨r3, e4, H⟩ := bd_some H
  refine T.regionL (ll := [0, 1, 2]) rfl ?_
  refine TO.loadA rfl rfl rfl rfl TWLFlowWays.a24 (List.Mem.head _) rfl ?_
  refine TO.callX TWLFlowWays.c17 rfl rfl rfl rfl (fun wc hwc => w_acequialow_Some (n0 := n0) (verts1 := 40) (arcs2 := 80) wc (h_n0_Arcs.mono hwc) e4) ?_
  rintro _ _ ⟨ob5, n6, c7, j8, rfl, rfl, hn9, hc10, hj11, hz12⟩
  refine TO.storeA rfl rfl rfl rfl (Take.tail (Take.head _ _)) TWLFlowWays.n24 rfl rfl rfl ?_
  refine TO.done ?_
  refine X.seq_normal ?_
  refine T.seq ?_
  obtain ⟨r14, e15, H⟩ := bd_some H
  refine T.regionL (ll := [0, 1, 2, 3]) rfl ?_
  refine TO.loadA rfl rfl rfl rfl TWLFlowWays.a24 (List.Mem.head _) rfl ?_
  refine TO.move rfl rfl rfl rfl ?_
  refine TO.callX TWLFlowWays.c18 rfl rfl rfl rfl (fun wc hwc => w_acequialow_Within (n0 := r3) (l1 := l1) wc (hwc.rs (f := arcC) (s := 3) (xs := r3.Arcs) (j := j8) (fun _ => rfl) (List.Mem.tail _ (List.Mem.head _)) hn9 hc10 hz12) (h_l1.mono hwc) e15) ?_
  rintro _ _ ⟨ob16, n17, c18, j19, rfl, rfl, hn20, hc21, hj22, hz23⟩
  refine TO.assign rfl rfl rfl rfl ?_
  refine TO.done ?_
  refine X.seq_normal ?_
  refine T.trim (AllF.cons (t := 2) rfl (AllF.cons (t := 3) rfl (AllF.cons (t := 4) rfl (AllF.cons (t := 5) rfl (AllF.cons (t := 11) rfl AllF.nil))))) ?_
  refine T.seq ?_
  obtain ⟨g25, H⟩ := gd_some H
  obtain ⟨g26, H⟩ := gd_some H
  obtain ⟨g27, H⟩ := gd_some H
  obtain ⟨⟨r28, r29⟩, e30, H⟩ := bd_some H
  apply T.drawL [⟨[], false, [], relV _⟩, ⟨[], false, [], relV _⟩, ⟨[1], false, [], relV _⟩, ⟨[], false, [], relV _⟩, ⟨[3], false, [], relV _⟩, ⟨[2, 4], false, [], relV _⟩, ⟨[], false, [], relV _⟩, ⟨[], false, [], relV _⟩, ⟨[7], false, [], relV _⟩, ⟨[8], false, [], relV _⟩, ⟨[6, 9], false, [], relV _⟩, ⟨[0, 5, 10], false, [], fun _ v e => ∃ (ob31 : Option Nat) (n32 : Nat) (c33 : Nat) (j34 : List Value), v = .tuple #[.slice (sb ob31) n32 c33, .int .i64 r29] ∧ e = [(ob31, .cells (arr hopC r28 j34).toArray 60 (0, 0))] ∧ r28.length = n32 ∧ n32 ≤ c33 ∧ j34.length = (c33 - n32) * 2 ∧ (ob31 = none → c33 = 0)⟩, ⟨[11], false, [], fun vl v e => v = (vl.getD 0 undef) ∧ e = []⟩, ⟨[11, 12], false, [], fun vl v e => v = (tupAt (vl.getD 1 undef) 0) ∧ e = []⟩, ⟨[11, 12], false, [], relV _⟩, ⟨[11, 12, 13], false, [], fun vl v e => v = (vl.getD 2 undef) ∧ e = []⟩] [33, 34, 35, 36, 37, 38, 39, 40, 41, 42, 43, 44, 32, 45, 46, 12] 16 (HRk [[]]) [[]] [] [(ob16, .cells (arr (intC .i64) r14 j19).toArray 2 (0, 0)), (some b1, .cells #[.int .i64 r3.N, .int .i64 r3.S, .int .i64 r3.T, .slice (sb ob5) n6 c7] 24 (0, 0)), (ob5, .cells (arr arcC r3.Arcs j8).toArray 28 (0, 0))]
  · exact mixed
  · exact rfl
  · kernel_rfl
  · kernel_rfl
  · kernel_rfl
  · exact rfl
  · exact rfl
  · exact rfl
  · exact rfl
  · exact (by repeat (first | exact Pick.refl _ | exact Pick.nil | apply Pick.none | refine Pick.cons (by repeat (first | exact Take.head _ _ | apply Take.tail)) ?_))
  · refine ⟨?_, ?_, ?_, ?_, ?_, ?_, ?_, ?_, ?_, ?_, ?_, ?_, ?_, ?_, ?_, ?_, trivial⟩
    · rintro vs es Es Hx -
      refine TO.reenv (D := []) rfl ?_
      refine TO.loadA rfl rfl rfl rfl TWLFlowWays.a24 (List.Mem.tail _ (List.Mem.head _)) rfl ?_
      refine TO.done ?_; exact X.obQ rfl ⟨rfl, rfl⟩ (Pick.refl _) rfl
    · rintro vs es Es Hx -
      refine TO.reenv (D := []) rfl ?_
      refine TO.move rfl rfl rfl rfl ?_
      refine TO.done ?_; exact X.obQ rfl ⟨rfl, rfl⟩ (Pick.refl _) rfl
    · rintro vs es Es Hx ⟨⟨h_1, e_1⟩, -⟩
      refine TO.reenv (D := [(34, vs 1)]) rfl ?_; rw [h_1]
      refine TO.convIn rfl rfl rfl rfl TWLFlowWays.o5 TWLFlowWays.i3 (wrap_i64_of g25.1 g25.2) ?_
      refine TO.done ?_; exact X.obQ rfl ⟨rfl, rfl⟩ (Pick.refl _) (by show [(34, vs 1)] = _; rw [h_1])
    · rintro vs es Es Hx -
      refine TO.reenv (D := []) rfl ?_
      refine TO.fieldAddr0 rfl rfl rfl rfl TWLFlowWays.f24_0 ?_
      refine TO.done ?_; exact X.obQ rfl ⟨rfl, rfl⟩ (Pick.refl _) rfl
    · rintro vs es Es Hx ⟨⟨h_3, e_3⟩, -⟩
      refine TO.reenv (D := [(36, vs 3)]) rfl ?_; rw [h_3]
      refine TO.load1 rfl rfl rfl rfl TWLFlowWays.s3 (List.Mem.tail _ (List.Mem.head _)) rfl ?_
      refine TO.done ?_; exact X.obQ rfl ⟨rfl, rfl⟩ (Pick.refl _) (by show [(36, vs 3)] = _; rw [h_3])
    · rintro vs es Es Hx ⟨⟨h_2, e_2⟩, ⟨h_4, e_4⟩, -⟩
      refine TO.reenv (D := [(35, vs 2), (37, vs 4)]) rfl ?_; rw [h_2, h_4]
      refine TO.rem rfl rfl rfl rfl rfl g26 ?_
      refine TO.done ?_; exact X.obQ rfl ⟨rfl, rfl⟩ (Pick.refl _) (by show [(35, vs 2), (37, vs 4)] = _; rw [h_2, h_4])
    · rintro vs es Es Hx -
      refine TO.reenv (D := []) rfl ?_
      refine TO.move rfl rfl rfl rfl ?_
      refine TO.done ?_; exact X.obQ rfl ⟨rfl, rfl⟩ (Pick.refl _) rfl
    · rintro vs es Es Hx -
      refine TO.reenv (D := []) rfl ?_
      refine TO.move rfl rfl rfl rfl ?_
      refine TO.done ?_; exact X.obQ rfl ⟨rfl, rfl⟩ (Pick.refl _) rfl
    · rintro vs es Es Hx ⟨⟨h_7, e_7⟩, -⟩
      refine TO.reenv (D := [(40, vs 7)]) rfl ?_; rw [h_7]
      refine TO.lenX (xs := moves3) h_moves3.len rfl rfl rfl rfl rfl TWLFlowWays.l52 ?_
      refine TO.done ?_; exact X.obQ rfl ⟨rfl, rfl⟩ (Pick.refl _) (by show [(40, vs 7)] = _; rw [h_7])
    · rintro vs es Es Hx ⟨⟨h_8, e_8⟩, -⟩
      refine TO.reenv (D := [(41, vs 8)]) rfl ?_; rw [h_8]
      refine TO.min2 rfl rfl rfl rfl rfl ?_
      refine TO.done ?_; exact X.obQ rfl ⟨rfl, rfl⟩ (Pick.refl _) (by show [(41, vs 8)] = _; rw [h_8])
    · rintro vs es Es Hx ⟨⟨h_6, e_6⟩, ⟨h_9, e_9⟩, -⟩
      refine TO.reenv (D := [(39, vs 6), (42, vs 9)]) rfl ?_; rw [h_6, h_9]
      refine TO.slH (xs := moves3) h_moves3.len h_moves3.cap g27 rfl rfl rfl rfl rfl TWLFlowWays.l52 TWLFlowWays.n5 ?_
      refine TO.done ?_; exact X.obQ rfl ⟨rfl, rfl⟩ (Pick.refl _) (by show [(39, vs 6), (42, vs 9)] = _; rw [h_6, h_9])
    · rintro vs es Es Hx ⟨⟨h_0, e_0⟩, ⟨h_5, e_5⟩, ⟨h_10, e_10⟩, -⟩
      refine TO.reenv (D := [(33, vs 0), (38, vs 5), (43, vs 10)]) rfl ?_; rw [h_0, h_5, h_10]
      refine TO.callX TWLFlowWays.c33 rfl rfl rfl rfl (fun wc hwc => w_acequialaw03_hops (n0 := r3) (v1 := (from2.tmod r3.N)) (l2 := (moves3.take (min (moves3.length : Int) 20).toNat)) wc (hwc.rs (f := arcC) (s := 3) (xs := r3.Arcs) (j := j8) (fun _ => rfl) (List.Mem.tail _ (List.Mem.tail _ (List.Mem.head _))) hn9 hc10 hz12) ((RS.take h_moves3 g27).mono hwc) e30) ?_
      rintro _ _ ⟨ob31, n32, c33, j34, rfl, rfl, hn35, hc36, hj37, hz38⟩
      refine TO.done ?_; exact X.obQ rfl ⟨ob31, n32, c33, j34, rfl, rfl, hn35, hc36, hj37, hz38⟩ (by repeat (first | exact Pick.refl _ | exact Pick.nil | apply Pick.none | refine Pick.cons (by repeat (first | exact Take.head _ _ | apply Take.tail)) ?_)) (by show [(33, vs 0), (38, vs 5), (43, vs 10)] = _; rw [h_0, h_5, h_10])
    · rintro vs es Es Hx ⟨⟨ob31, n32, c33, j34, h_11, e_11, hn35, hc36, hj37, hz38⟩, -⟩
      refine TO.reenv (D := [(44, vs 11)]) rfl ?_; rw [h_11]
      refine TO.reheap (H := [(ob16, .cells (arr (intC .i64) r14 j19).toArray 2 (0, 0)), (some b1, .cells #[.int .i64 r3.N, .int .i64 r3.S, .int .i64 r3.T, .slice (sb ob5) n6 c7] 24 (0, 0)), (ob5, .cells (arr arcC r3.Arcs j8).toArray 28 (0, 0))] ++ ([(ob31, .cells (arr hopC r28 j34).toArray 60 (0, 0))] ++ Hx)) (by show _ ++ ((es 11 ++ ([])) ++ _) = _; rw [e_11]; rfl) ?_
      refine TO.move rfl rfl rfl rfl ?_
      refine TO.done ?_; exact X.obQ rfl ⟨by show _ = vs 11; rw [h_11] <;> rfl, rfl⟩ (by show Pick (_ ++ (_ ++ ((es 11 ++ ([])) ++ _))) _; rw [e_11]; exact (by repeat (first | exact Pick.refl _ | exact Pick.nil | apply Pick.none | refine Pick.cons (by repeat (first | exact Take.head _ _ | apply Take.tail)) ?_))) (by show [(44, vs 11)] = _; rw [h_11])
    · rintro vs es Es Hx ⟨⟨ob31, n32, c33, j34, h_11, e_11, hn35, hc36, hj37, hz38⟩, ⟨q_12, e_12⟩, -⟩
      have h_12 : vs 12 = .tuple #[.slice (sb ob31) n32 c33, .int .i64 r29] := by refine Eq.trans q_12 ?_; show vs 11 = _; rw [h_11] <;> rfl
      refine TO.reenv (D := [(44, vs 11), (32, vs 12)]) rfl ?_; rw [h_11, h_12]
      refine TO.reheap (H := [(ob16, .cells (arr (intC .i64) r14 j19).toArray 2 (0, 0)), (some b1, .cells #[.int .i64 r3.N, .int .i64 r3.S, .int .i64 r3.T, .slice (sb ob5) n6 c7] 24 (0, 0)), (ob5, .cells (arr arcC r3.Arcs j8).toArray 28 (0, 0))] ++ ([(ob31, .cells (arr hopC r28 j34).toArray 60 (0, 0))] ++ Hx)) (by show _ ++ ((es 11 ++ (es 12 ++ ([]))) ++ _) = _; rw [e_11, e_12]; rfl) ?_
      refine TO.extract rfl rfl rfl rfl rfl ?_
      refine TO.done ?_; exact X.obQ rfl ⟨by show _ = (tupAt (vs 12) 0); rw [h_12] <;> rfl, rfl⟩ (by show Pick (_ ++ (_ ++ ((es 11 ++ (es 12 ++ ([]))) ++ _))) _; rw [e_11, e_12]; exact (by repeat (first | exact Pick.refl _ | exact Pick.nil | apply Pick.none | refine Pick.cons (by repeat (first | exact Take.head _ _ | apply Take.tail)) ?_))) (by show [(44, vs 11), (32, vs 12)] = _; rw [h_11, h_12])
    · rintro vs es Es Hx ⟨⟨ob31, n32, c33, j34, h_11, e_11, hn35, hc36, hj37, hz38⟩, ⟨q_12, e_12⟩, -⟩
      have h_12 : vs 12 = .tuple #[.slice (sb ob31) n32 c33, .int .i64 r29] := by refine Eq.trans q_12 ?_; show vs 11 = _; rw [h_11] <;> rfl
      refine TO.reenv (D := [(44, vs 11), (32, vs 12)]) rfl ?_; rw [h_11, h_12]
      refine TO.reheap (H := [(ob16, .cells (arr (intC .i64) r14 j19).toArray 2 (0, 0)), (some b1, .cells #[.int .i64 r3.N, .int .i64 r3.S, .int .i64 r3.T, .slice (sb ob5) n6 c7] 24 (0, 0)), (ob5, .cells (arr arcC r3.Arcs j8).toArray 28 (0, 0))] ++ ([(ob31, .cells (arr hopC r28 j34).toArray 60 (0, 0))] ++ Hx)) (by show _ ++ ((es 11 ++ (es 12 ++ ([]))) ++ _) = _; rw [e_11, e_12]; rfl) ?_
      refine TO.extract rfl rfl rfl rfl rfl ?_
      refine TO.done ?_; exact X.obQ rfl ⟨rfl, rfl⟩ (by show Pick (_ ++ (_ ++ ((es 11 ++ (es 12 ++ ([]))) ++ _))) _; rw [e_11, e_12]; exact (by repeat (first | exact Pick.refl _ | exact Pick.nil | apply Pick.none | refine Pick.cons (by repeat (first | exact Take.head _ _ | apply Take.tail)) ?_))) (by show [(44, vs 11), (32, vs 12)] = _; rw [h_11, h_12])
    · rintro vs es Es Hx ⟨⟨ob31, n32, c33, j34, h_11, e_11, hn35, hc36, hj37, hz38⟩, ⟨q_12, e_12⟩, ⟨q_13, e_13⟩, -⟩
      have h_12 : vs 12 = .tuple #[.slice (sb ob31) n32 c33, .int .i64 r29] := by refine Eq.trans q_12 ?_; show vs 11 = _; rw [h_11] <;> rfl
      have h_13 : vs 13 = .slice (sb ob31) n32 c33 := by refine Eq.trans q_13 ?_; show (tupAt (vs 12) 0) = _; rw [h_12] <;> rfl
      refine TO.reenv (D := [(44, vs 11), (32, vs 12), (45, vs 13)]) rfl ?_; rw [h_11, h_12, h_13]
      refine TO.reheap (H := [(ob16, .cells (arr (intC .i64) r14 j19).toArray 2 (0, 0)), (some b1, .cells #[.int .i64 r3.N, .int .i64 r3.S, .int .i64 r3.T, .slice (sb ob5) n6 c7] 24 (0, 0)), (ob5, .cells (arr arcC r3.Arcs j8).toArray 28 (0, 0))] ++ ([(ob31, .cells (arr hopC r28 j34).toArray 60 (0, 0))] ++ Hx)) (by show _ ++ ((es 11 ++ (es 12 ++ (es 13 ++ ([])))) ++ _) = _; rw [e_11, e_12, e_13]; rfl) ?_
      refine TO.assign rfl rfl rfl rfl ?_
      refine TO.done ?_; exact X.obQ rfl ⟨by show _ = vs 13; rw [h_13] <;> rfl, rfl⟩ (by show Pick (_ ++ (_ ++ ((es 11 ++ (es 12 ++ (es 13 ++ ([])))) ++ _))) _; rw [e_11, e_12, e_13]; exact (by repeat (first | exact Pick.refl _ | exact Pick.nil | apply Pick.none | refine Pick.cons (by repeat (first | exact Take.head _ _ | apply Take.tail)) ?_))) (by show [(44, vs 11), (32, vs 12), (45, vs 13)] = _; rw [h_11, h_12, h_13])
  · rintro vs es hb ⟨⟨h_0, e_0⟩, ⟨h_1, e_1⟩, ⟨h_2, e_2⟩, ⟨h_3, e_3⟩, ⟨h_4, e_4⟩, ⟨h_5, e_5⟩, ⟨h_6, e_6⟩, ⟨h_7, e_7⟩, ⟨h_8, e_8⟩, ⟨h_9, e_9⟩, ⟨h_10, e_10⟩, ⟨ob31, n32, c33, j34, h_11, e_11, hn35, hc36, hj37, hz38⟩, ⟨q_12, e_12⟩, ⟨q_13, e_13⟩, ⟨h_14, e_14⟩, ⟨q_15, e_15⟩, -⟩ hHR
    obtain rfl : hb = [] := hHR
    have h_12 : vs 12 = .tuple #[.slice (sb ob31) n32 c33, .int .i64 r29] := by refine Eq.trans q_12 ?_; show vs 11 = _; rw [h_11] <;> rfl
    have h_13 : vs 13 = .slice (sb ob31) n32 c33 := by refine Eq.trans q_13 ?_; show (tupAt (vs 12) 0) = _; rw [h_12] <;> rfl
    have h_15 : vs 15 = .slice (sb ob31) n32 c33 := by refine Eq.trans q_15 ?_; show vs 13 = _; rw [h_13] <;> rfl
    refine TO.reenv (D := [(33, vs 0), (34, vs 1), (35, vs 2), (36, vs 3), (37, vs 4), (38, vs 5), (39, vs 6), (40, vs 7), (41, vs 8), (42, vs 9), (43, vs 10), (44, vs 11), (32, vs 12), (45, vs 13), (46, vs 14), (12, vs 15)]) rfl ?_
    refine TO.reheap (H := [(ob16, .cells (arr (intC .i64) r14 j19).toArray 2 (0, 0)), (some b1, .cells #[.int .i64 r3.N, .int .i64 r3.S, .int .i64 r3.T, .slice (sb ob5) n6 c7] 24 (0, 0)), (ob5, .cells (arr arcC r3.Arcs j8).toArray 28 (0, 0)), (ob31, .cells (arr hopC r28 j34).toArray 60 (0, 0))]) (by show _ ++ (_ ++ (es 0 ++ (es 1 ++ (es 2 ++ (es 3 ++ (es 4 ++ (es 5 ++ (es 6 ++ (es 7 ++ (es 8 ++ (es 9 ++ (es 10 ++ (es 11 ++ (es 12 ++ (es 13 ++ (es 14 ++ (es 15 ++ ([])))))))))))))))))) = _; rw [e_0, e_1, e_2, e_3, e_4, e_5, e_6, e_7, e_8, e_9, e_10, e_11, e_12, e_13, e_14, e_15]; rfl) ?_
    rw [h_0, h_1, h_2, h_3, h_4, h_5, h_6, h_7, h_8, h_9, h_10, h_11, h_12, h_13, h_14, h_15]
    clear h_15 h_14 h_13 h_12 h_11 h_10 h_9 h_8 h_7 h_6 h_5 h_4 h_3 h_2 h_1 h_0 q_12 q_13 q_15 e_0 e_1 e_2 e_3 e_4 e_5 e_6 e_7 e_8 e_9 e_10 e_11 e_12 e_13 e_14 e_15
    refine TO.assign rfl rfl rfl rfl ?_
    refine TO.done ?_
    refine X.seq_normal ?_
    refine T.trim (AllF.cons (t := 4) rfl (AllF.cons (t := 5) rfl (AllF.cons (t := 11) rfl (AllF.cons (t := 12) rfl (AllF.cons (t := 13) rfl AllF.nil))))) ?_
    refine T.seq ?_
    obtain ⟨g42, H⟩ := gd_some H
    refine T.regionL (ll := [0, 1, 2, 3]) rfl ?_
    refine TO.buildNone rfl rfl rfl TWLFlowWays.l54 TWLFlowWays.n60 ?_; intro b40
    refine TO.move rfl rfl rfl rfl ?_
    refine TO.app (f := hopC) (s := 2) (xs := ([] : List Hop)) (ob := some b40) (j := ([])) (ys := r28) (fun _ => rfl) (fun _ => rfl) TWLFlowWaysel54 g42 rfl rfl rfl rfl rfl (Take.head _ _) rfl (Nat.le_refl _) (zeroJ 0 _) someZ (fun wc hwc => (hwc.rs (f := hopC) (s := 2) (xs := r28) (j := j34) (fun _ => rfl) (List.Mem.tail _ (List.Mem.tail _ (List.Mem.tail _ (List.Mem.tail _ (List.Mem.head _))))) hn35 hc36 hz38)) ?_; intro ob43 c44 j45 hc46 hj47 hz48
    refine TO.assign rfl rfl rfl rfl ?_
    refine TO.done ?_
    refine X.seq_normal ?_
    refine T.seq ?_
    refine T.seq ?_
    obtain ⟨g50, H⟩ := gd_some H
    refine T.regionL (ll := [0, 1, 2, 3]) rfl ?_
    refine TO.move rfl rfl rfl rfl ?_
    refine TO.lenX (xs := r28) hn35 rfl rfl rfl rfl rfl TWLFlowWays.l54 ?_
    refine TO.subG g50 rfl rfl rfl rfl rfl ?_
    refine TO.assign rfl rfl rfl rfl ?_
    refine TO.done ?_
    refine X.seq_normal ?_
    refine T.meetSE5 (fun (both76 : List Hop) (n77 : Nat) (c78 : Nat) (ob79 : Option Nat) (j80 : List Value) => m_acequialaw03_FlowWays_j2 arc4 r3 r14 r28 r29 both76 = some r0 ∧ both76.length = n77 ∧ n77 ≤ c78 ∧ j80.length = (c78 - n77) * 2 ∧ (ob79 = none → c78 = 0)) (fun (both76 : List Hop) (n77 : Nat) (c78 : Nat) (ob79 : Option Nat) (j80 : List Value) => [(4, .int .i64 arc4), (5, .pointer (some ⟨b1, 0, none⟩)), (11, .slice (sb ob16) n17 c18), (12, .slice (sb ob31) n32 c33), (13, .int .i64 r29), (14, .slice (sb ob79) n77 c78)]) (fun (both76 : List Hop) (n77 : Nat) (c78 : Nat) (ob79 : Option Nat) (j80 : List Value) => [(some b1, .cells #[.int .i64 r3.N, .int .i64 r3.S, .int .i64 r3.T, .slice (sb ob5) n6 c7] 24 (0, 0)), (ob5, .cells (arr arcC r3.Arcs j8).toArray 28 (0, 0)), (ob16, .cells (arr (intC .i64) r14 j19).toArray 2 (0, 0)), (ob31, .cells (arr hopC r28 j34).toArray 60 (0, 0)), (ob79, .cells (arr hopC both76 j80).toArray 60 (0, 0))]) ?_ ?_
    ·
      refine T.block ?_
      obtain ⟨o_1, e_1, K_1⟩ := bd_some H
      refine T.loopE7 (fun (m_1 : Nat) (both51 : List Hop) (n52 : Nat) (c53 : Nat) (ob54 : Option Nat) (j55 : List Value) (i61 : Int) => loopM (fun s => m_acequialaw03_FlowWays_s1 r28 s.1 s.2) m_1 (both51, i61) = some o_1 ∧ both51.length = n52 ∧ n52 ≤ c53 ∧ j55.length = (c53 - n52) * 2 ∧ (ob54 = none → c53 = 0)) (fun (m_1 : Nat) (both51 : List Hop) (n52 : Nat) (c53 : Nat) (ob54 : Option Nat) (j55 : List Value) (i61 : Int) => [(4, .int .i64 arc4), (5, .pointer (some ⟨b1, 0, none⟩)), (11, .slice (sb ob16) n17 c18), (12, .slice (sb ob31) n32 c33), (13, .int .i64 r29), (14, .slice (sb ob54) n52 c53), (15, .int .i64 i61)]) (fun (m_1 : Nat) (both51 : List Hop) (n52 : Nat) (c53 : Nat) (ob54 : Option Nat) (j55 : List Value) (i61 : Int) => [(some b1, .cells #[.int .i64 r3.N, .int .i64 r3.S, .int .i64 r3.T, .slice (sb ob5) n6 c7] 24 (0, 0)), (ob5, .cells (arr arcC r3.Arcs j8).toArray 28 (0, 0)), (ob16, .cells (arr (intC .i64) r14 j19).toArray 2 (0, 0)), (ob31, .cells (arr hopC r28 j34).toArray 60 (0, 0)), (ob54, .cells (arr hopC both51 j55).toArray 60 (0, 0))]) (fun (m_1 : Nat) (both51 : List Hop) (n52 : Nat) (c53 : Nat) (ob54 : Option Nat) (j55 : List Value) (i61 : Int) => m_1) FUEL r28 (0 + n32) c44 ob43 j45 ((r28.length : Int) - 1) ⟨e_1, (lenApp0 hn35), hc46, hj47, hz48⟩ (AllF.cons rfl (AllF.cons rfl (AllF.cons rfl (AllF.cons rfl (AllF.cons rfl (AllF.cons rfl (AllF.cons rfl AllF.nil))))))) (Pick.cons (Take.tail (Take.tail (Take.head _ _))) (Pick.cons (Take.tail (Take.tail (Take.head _ _))) (Pick.cons (Take.tail (Take.head _ _)) (Pick.cons (Take.tail (Take.head _ _)) (Pick.cons (Take.head _ _) Pick.nil))))) ?_
      rintro m_1 both51 n52 c53 ob54 j55 i61 ⟨H, hn56, hc57, hj58, hz59⟩
      obtain ⟨n_1, r_1, rfl, H, C_1⟩ := loopM_some H
      have H : m_acequialaw03_FlowWays_s1 r28 both51 i61 = some r_1 := H
      unfold m_acequialaw03_FlowWays_s1 at H
      refine T.seq ?_
      refine T.seq ?_
      refine T.regionL (ll := [0, 1]) rfl ?_
      refine TO.move rfl rfl rfl rfl ?_
      refine TO.bin rfl rfl rfl rfl rfl rfl ?_
      refine TO.done ?_
      refine X.seq_normal ?_
      rcases ite_some H with ⟨g62, H⟩ | ⟨g62, H⟩
      ·
        refine T.condPT rfl g62 ?_
        refine T.skip ?_
        refine X.seq_normal ?_
        refine T.seq ?_
        refine T.block ?_
        obtain ⟨g63, H⟩ := gd_some H
        obtain ⟨g64, H⟩ := gd_some H
        obtain ⟨g67, H⟩ := gd_some H
        apply T.drawL [⟨[], false, [], relV _⟩, ⟨[], false, [], relV _⟩, ⟨[], false, [], relV _⟩, ⟨[1, 2], false, [], relV _⟩, ⟨[1, 2, 3], false, [], relV _⟩, ⟨[1, 2, 3, 4], false, [], relV _⟩, ⟨[], false, [], relV _⟩, ⟨[], false, [], relV _⟩, ⟨[6, 7], false, [], relV _⟩, ⟨[6, 7, 8], false, [], relV _⟩, ⟨[6, 7, 8, 9], false, [], relV _⟩, ⟨[10], false, [], relV _⟩, ⟨[5, 11], false, [], relV _⟩, ⟨[12], false, [], fun _ v e => ∃ (b65 : Nat), v = .slice (some ⟨b65, 0, none⟩) 1 1 ∧ e = [(some b65, .cells (arr hopC ([(Hop.mk ((r28.getD i61.toNat default).Arc) (!(r28.getD i61.toNat default).Back))]) ([])).toArray 60 (0, 0))]⟩] [57, 58, 59, 60, 61, 62, 63, 64, 65, 66, 67, 68, 69, 70] 14 (HRk [[]]) [[]] [] [(some b1, .cells #[.int .i64 r3.N, .int .i64 r3.S, .int .i64 r3.T, .slice (sb ob5) n6 c7] 24 (0, 0)), (ob5, .cells (arr arcC r3.Arcs j8).toArray 28 (0, 0)), (ob16, .cells (arr (intC .i64) r14 j19).toArray 2 (0, 0)), (ob31, .cells (arr hopC r28 j34).toArray 60 (0, 0)), (ob54, .cells (arr hopC both51 j55).toArray 60 (0, 0))]
        · exact mixed
        · exact rfl
        · kernel_rfl
        · kernel_rfl
        · kernel_rfl
        · exact rfl
        · exact rfl
        · exact rfl
        · exact rfl
        · exact (by repeat (first | exact Pick.refl _ | exact Pick.nil | apply Pick.none | refine Pick.cons (by repeat (first | exact Take.head _ _ | apply Take.tail)) ?_))
        · refine ⟨?_, ?_, ?_, ?_, ?_, ?_, ?_, ?_, ?_, ?_, ?_, ?_, ?_, ?_, trivial⟩
          · rintro vs es Es Hx -
            refine TO.reenv (D := []) rfl ?_
            refine TO.move rfl rfl rfl rfl ?_
            refine TO.done ?_; exact X.obQ rfl ⟨rfl, rfl⟩ (Pick.refl _) rfl
          · rintro vs es Es Hx -
            refine TO.reenv (D := []) rfl ?_
            refine TO.move rfl rfl rfl rfl ?_
            refine TO.done ?_; exact X.obQ rfl ⟨rfl, rfl⟩ (Pick.refl _) rfl
          · rintro vs es Es Hx -
            refine TO.reenv (D := []) rfl ?_
            refine TO.move rfl rfl rfl rfl ?_
            refine TO.done ?_; exact X.obQ rfl ⟨rfl, rfl⟩ (Pick.refl _) rfl
          · rintro vs es Es Hx ⟨⟨h_1, e_1⟩, ⟨h_2, e_2⟩, -⟩
            refine TO.reenv (D := [(58, vs 1), (59, vs 2)]) rfl ?_; rw [h_1, h_2]
            refine TO.ixV hz38 hc36 hn35 g63 rfl rfl rfl rfl rfl TWLFlowWays.l54 TWLFlowWays.n60 ?_
            refine TO.done ?_; exact X.obQ rfl ⟨rfl, rfl⟩ (Pick.refl _) (by show [(58, vs 1), (59, vs 2)] = _; rw [h_1, h_2])
          · rintro vs es Es Hx ⟨⟨h_1, e_1⟩, ⟨h_2, e_2⟩, ⟨h_3, e_3⟩, -⟩
            refine TO.reenv (D := [(58, vs 1), (59, vs 2), (60, vs 3)]) rfl ?_; rw [h_1, h_2, h_3]
            refine TO.faR rfl rfl rfl rfl TWLFlowWays.f60_0 ?_
            refine TO.done ?_; exact X.obQ rfl ⟨rfl, rfl⟩ (Pick.refl _) (by show [(58, vs 1), (59, vs 2), (60, vs 3)] = _; rw [h_1, h_2, h_3])
          · rintro vs es Es Hx ⟨⟨h_1, e_1⟩, ⟨h_2, e_2⟩, ⟨h_3, e_3⟩, ⟨h_4, e_4⟩, -⟩
            refine TO.reenv (D := [(58, vs 1), (59, vs 2), (60, vs 3), (61, vs 4)]) rfl ?_; rw [h_1, h_2, h_3, h_4]
            refine TO.ldFV (f := hopC) (v := .int .i64 ((r28.getD i61.toNat default).Arc)) default (fun _ => rfl) hz38 hc36 hn35 g63 rfl rfl rfl rfl rfl TWLFlowWays.s3 (List.Mem.tail _ (List.Mem.tail _ (List.Mem.tail _ (List.Mem.head _)))) ?_
            refine TO.done ?_; exact X.obQ rfl ⟨rfl, rfl⟩ (Pick.refl _) (by show [(58, vs 1), (59, vs 2), (60, vs 3), (61, vs 4)] = _; rw [h_1, h_2, h_3, h_4])
          · rintro vs es Es Hx -
            refine TO.reenv (D := []) rfl ?_
            refine TO.move rfl rfl rfl rfl ?_
            refine TO.done ?_; exact X.obQ rfl ⟨rfl, rfl⟩ (Pick.refl _) rfl
          · rintro vs es Es Hx -
            refine TO.reenv (D := []) rfl ?_
            refine TO.move rfl rfl rfl rfl ?_
            refine TO.done ?_; exact X.obQ rfl ⟨rfl, rfl⟩ (Pick.refl _) rfl
          · rintro vs es Es Hx ⟨⟨h_6, e_6⟩, ⟨h_7, e_7⟩, -⟩
            refine TO.reenv (D := [(63, vs 6), (64, vs 7)]) rfl ?_; rw [h_6, h_7]
            refine TO.ixV hz38 hc36 hn35 g64 rfl rfl rfl rfl rfl TWLFlowWays.l54 TWLFlowWays.n60 ?_
            refine TO.done ?_; exact X.obQ rfl ⟨rfl, rfl⟩ (Pick.refl _) (by show [(63, vs 6), (64, vs 7)] = _; rw [h_6, h_7])
          · rintro vs es Es Hx ⟨⟨h_6, e_6⟩, ⟨h_7, e_7⟩, ⟨h_8, e_8⟩, -⟩
            refine TO.reenv (D := [(63, vs 6), (64, vs 7), (65, vs 8)]) rfl ?_; rw [h_6, h_7, h_8]
            refine TO.faR rfl rfl rfl rfl TWLFlowWays.f60_1 ?_
            refine TO.done ?_; exact X.obQ rfl ⟨rfl, rfl⟩ (Pick.refl _) (by show [(63, vs 6), (64, vs 7), (65, vs 8)] = _; rw [h_6, h_7, h_8])
          · rintro vs es Es Hx ⟨⟨h_6, e_6⟩, ⟨h_7, e_7⟩, ⟨h_8, e_8⟩, ⟨h_9, e_9⟩, -⟩
            refine TO.reenv (D := [(63, vs 6), (64, vs 7), (65, vs 8), (66, vs 9)]) rfl ?_; rw [h_6, h_7, h_8, h_9]
            refine TO.ldFV (f := hopC) (v := .bool ((r28.getD i61.toNat default).Back)) default (fun _ => rfl) hz38 hc36 hn35 g64 rfl rfl rfl rfl rfl TWLFlowWays.s4 (List.Mem.tail _ (List.Mem.tail _ (List.Mem.tail _ (List.Mem.head _)))) ?_
            refine TO.done ?_; exact X.obQ rfl ⟨rfl, rfl⟩ (Pick.refl _) (by show [(63, vs 6), (64, vs 7), (65, vs 8), (66, vs 9)] = _; rw [h_6, h_7, h_8, h_9])
          · rintro vs es Es Hx ⟨⟨h_10, e_10⟩, -⟩
            refine TO.reenv (D := [(67, vs 10)]) rfl ?_; rw [h_10]
            refine TO.not rfl rfl rfl rfl ?_
            refine TO.done ?_; exact X.obQ rfl ⟨rfl, rfl⟩ (Pick.refl _) (by show [(67, vs 10)] = _; rw [h_10])
          · rintro vs es Es Hx ⟨⟨h_5, e_5⟩, ⟨h_11, e_11⟩, -⟩
            refine TO.reenv (D := [(62, vs 5), (68, vs 11)]) rfl ?_; rw [h_5, h_11]
            refine TO.buildS (t := 60) [.int .i64 0, .bool false] [0, 1] rfl rfl rfl rfl (by simp only [setAll, setCells, Value.cells, List.toList_toArray, List.getD_cons_zero, List.getD_cons_succ, List.set_cons_zero, List.set_cons_succ]; rfl) (by kernel_rfl) ?_
            refine TO.done ?_; exact X.obQ rfl ⟨rfl, rfl⟩ (Pick.refl _) (by show [(62, vs 5), (68, vs 11)] = _; rw [h_5, h_11])
          · rintro vs es Es Hx ⟨⟨h_12, e_12⟩, -⟩
            refine TO.reenv (D := [(69, vs 12)]) rfl ?_; rw [h_12]
            refine TO.buildSliceS [.int .i64 0, .bool false] [0] rfl rfl rfl rfl TWLFlowWays.l54 TWLFlowWays.n60 TWLFlowWays.z60 rfl rfl (by simp only [setAll, setCells, Value.cells, List.toList_toArray, List.getD_cons_zero, List.getD_cons_succ, List.set_cons_zero, List.set_cons_succ]; rfl) (by kernel_rfl) ?_; intro b65
            refine TO.done ?_; exact X.obQ rfl ⟨b65, rfl, rfl⟩ (by repeat (first | exact Pick.refl _ | exact Pick.nil | apply Pick.none | refine Pick.cons (by repeat (first | exact Take.head _ _ | apply Take.tail)) ?_)) (by show [(69, vs 12)] = _; rw [h_12])
        · rintro vs es hb ⟨⟨h_0, e_0⟩, ⟨h_1, e_1⟩, ⟨h_2, e_2⟩, ⟨h_3, e_3⟩, ⟨h_4, e_4⟩, ⟨h_5, e_5⟩, ⟨h_6, e_6⟩, ⟨h_7, e_7⟩, ⟨h_8, e_8⟩, ⟨h_9, e_9⟩, ⟨h_10, e_10⟩, ⟨h_11, e_11⟩, ⟨h_12, e_12⟩, ⟨b65, h_13, e_13⟩, -⟩ hHR
          obtain rfl : hb = [] := hHR
          refine TO.reenv (D := [(57, vs 0), (58, vs 1), (59, vs 2), (60, vs 3), (61, vs 4), (62, vs 5), (63, vs 6), (64, vs 7), (65, vs 8), (66, vs 9), (67, vs 10), (68, vs 11), (69, vs 12), (70, vs 13)]) rfl ?_
          refine TO.reheap (H := [(some b1, .cells #[.int .i64 r3.N, .int .i64 r3.S, .int .i64 r3.T, .slice (sb ob5) n6 c7] 24 (0, 0)), (ob5, .cells (arr arcC r3.Arcs j8).toArray 28 (0, 0)), (ob16, .cells (arr (intC .i64) r14 j19).toArray 2 (0, 0)), (ob31, .cells (arr hopC r28 j34).toArray 60 (0, 0)), (ob54, .cells (arr hopC both51 j55).toArray 60 (0, 0)), (some b65, .cells (arr hopC ([(Hop.mk ((r28.getD i61.toNat default).Arc) (!(r28.getD i61.toNat default).Back))]) ([])).toArray 60 (0, 0))]) (by show _ ++ (_ ++ (es 0 ++ (es 1 ++ (es 2 ++ (es 3 ++ (es 4 ++ (es 5 ++ (es 6 ++ (es 7 ++ (es 8 ++ (es 9 ++ (es 10 ++ (es 11 ++ (es 12 ++ (es 13 ++ ([])))))))))))))))) = _; rw [e_0, e_1, e_2, e_3, e_4, e_5, e_6, e_7, e_8, e_9, e_10, e_11, e_12, e_13]; rfl) ?_
          rw [h_0, h_1, h_2, h_3, h_4, h_5, h_6, h_7, h_8, h_9, h_10, h_11, h_12, h_13]
          clear h_13 h_12 h_11 h_10 h_9 h_8 h_7 h_6 h_5 h_4 h_3 h_2 h_1 h_0 e_0 e_1 e_2 e_3 e_4 e_5 e_6 e_7 e_8 e_9 e_10 e_11 e_12 e_13
          refine TO.app (f := hopC) (s := 2) (xs := both51) (ob := ob54) (j := j55) (ys := [(Hop.mk ((r28.getD i61.toNat default).Arc) (!(r28.getD i61.toNat default).Back))]) (fun _ => rfl) (fun _ => rfl) TWLFlowWaysel54 g67 rfl rfl rfl rfl rfl (Take.tail (Take.tail (Take.tail (Take.tail (Take.head _ _))))) hn56 hc57 hj58 hz59 (fun wc hwc => (hwc.rs (f := hopC) (s := 2) (xs := [(Hop.mk ((r28.getD i61.toNat default).Arc) (!(r28.getD i61.toNat default).Back))]) (j := ([])) (fun _ => rfl) (List.Mem.tail _ (List.Mem.tail _ (List.Mem.tail _ (List.Mem.tail _ (List.Mem.tail _ (List.Mem.head _)))))) rfl (Nat.le_refl _) someZ)) ?_; intro ob68 c69 j70 hc71 hj72 hz73
          refine TO.assign rfl rfl rfl rfl ?_
          refine TO.done ?_
          refine X.block_normal ?_
          refine X.seq_normal ?_
          refine T.trim (AllF.cons (t := 4) rfl (AllF.cons (t := 5) rfl (AllF.cons (t := 11) rfl (AllF.cons (t := 12) rfl (AllF.cons (t := 13) rfl (AllF.cons (t := 14) rfl (AllF.cons (t := 15) rfl AllF.nil))))))) ?_
          obtain ⟨g75, H⟩ := gd_some H
          refine T.regionL (ll := [0, 1, 2]) rfl ?_
          refine TO.move rfl rfl rfl rfl ?_
          refine TO.subG g75 rfl rfl rfl rfl rfl ?_
          refine TO.assign rfl rfl rfl rfl ?_
          refine TO.done ?_
          have H := loop_next H C_1
          exact X.againE7 n_1 (both51 ++ ([(Hop.mk ((r28.getD i61.toNat default).Arc) (!(r28.getD i61.toNat default).Back))])) (n52 + 1) c69 ob68 j70 (i61 - 1) ⟨H, (lenApp hn56 rfl), hc71, hj72, hz73⟩ (Nat.lt_succ_self _) (AllF.cons rfl (AllF.cons rfl (AllF.cons rfl (AllF.cons rfl (AllF.cons rfl (AllF.cons rfl (AllF.cons rfl AllF.nil))))))) (Pick.cons (Take.tail (Take.head _ _)) (Pick.cons (Take.tail (Take.head _ _)) (Pick.cons (Take.tail (Take.head _ _)) (Pick.cons (Take.tail (Take.head _ _)) (Pick.cons (Take.head _ _) Pick.nil)))))
      ·
        refine T.condPF rfl g62 ?_
        refine T.exit ?_
        refine X.then_exit ?_
        have H := loop_exitE H C_1 ▸ K_1
        refine X.then_exit ?_
        refine X.block_here ?_
        exact X.metE5 both51 n52 c53 ob54 j55 ⟨H, hn56, hc57, hj58, hz59⟩ (AllF.cons rfl (AllF.cons rfl (AllF.cons rfl (AllF.cons rfl (AllF.cons rfl (AllF.cons rfl AllF.nil)))))) (Pick.cons (Take.head _ _) (Pick.cons (Take.head _ _) (Pick.cons (Take.head _ _) (Pick.cons (Take.head _ _) (Pick.cons (Take.head _ _) Pick.nil)))))
    · rintro both76 n77 c78 ob79 j80 ⟨H, hn81, hc82, hj83, hz84⟩
      unfold m_acequialaw03_FlowWays_j2 at H
      refine T.seq ?_
      obtain ⟨⟨r86, r87⟩, e88, H⟩ := bd_some H
      refine T.regionL (ll := [0, 1, 2, 3, 4, 5, 6, 7, 8]) rfl ?_
      refine TO.loadA rfl rfl rfl rfl TWLFlowWays.a24 (List.Mem.head _) rfl ?_
      refine TO.move rfl rfl rfl rfl ?_
      refine TO.move rfl rfl rfl rfl ?_
      refine TO.callX TWLFlowWays.c34 rfl rfl rfl rfl (fun wc hwc => w_flow_Room (n0 := r3) (f1 := r14) (l2 := both76) wc (hwc.rs (f := arcC) (s := 3) (xs := r3.Arcs) (j := j8) (fun _ => rfl) (List.Mem.tail _ (List.Mem.head _)) hn9 hc10 hz12) (hwc.rs (f := (intC .i64)) (s := 1) (xs := r14) (j := j19) (fun _ => rfl) (List.Mem.tail _ (List.Mem.tail _ (List.Mem.head _))) hn20 hc21 hz23) (hwc.rs (f := hopC) (s := 2) (xs := both76) (j := j80) (fun _ => rfl) (List.Mem.tail _ (List.Mem.tail _ (List.Mem.tail _ (List.Mem.tail _ (List.Mem.head _))))) hn81 hc82 hz84) e88) ?_
      rintro _ _ ⟨rfl, rfl⟩
      refine TO.move rfl rfl rfl rfl ?_
      refine TO.extract rfl rfl rfl rfl rfl ?_
      refine TO.extract rfl rfl rfl rfl rfl ?_
      refine TO.assign rfl rfl rfl rfl ?_
      refine TO.assign rfl rfl rfl rfl ?_
      refine TO.done ?_
      refine X.seq_normal ?_
      refine T.seq ?_
      obtain ⟨⟨r89, r90⟩, e91, H⟩ := bd_some H
      refine T.regionL (ll := [0, 1, 2, 3, 4, 5, 6, 7, 8, 9]) rfl ?_
      refine TO.loadA rfl rfl rfl rfl TWLFlowWays.a24 (List.Mem.head _) rfl ?_
      refine TO.move rfl rfl rfl rfl ?_
      refine TO.move rfl rfl rfl rfl ?_
      refine TO.move rfl rfl rfl rfl ?_
      refine TO.callX TWLFlowWays.c35 rfl rfl rfl rfl (fun wc hwc => w_flow_Send (n0 := r3) (f1 := r14) (l2 := both76) (d3 := r86) wc (hwc.rs (f := arcC) (s := 3) (xs := r3.Arcs) (j := j8) (fun _ => rfl) (List.Mem.tail _ (List.Mem.head _)) hn9 hc10 hz12) (hwc.rs (f := (intC .i64)) (s := 1) (xs := r14) (j := j19) (fun _ => rfl) (List.Mem.tail _ (List.Mem.tail _ (List.Mem.head _))) hn20 hc21 hz23) (hwc.rs (f := hopC) (s := 2) (xs := both76) (j := j80) (fun _ => rfl) (List.Mem.tail _ (List.Mem.tail _ (List.Mem.tail _ (List.Mem.tail _ (List.Mem.head _))))) hn81 hc82 hz84) e91) ?_
      rintro _ _ ⟨ob92, n93, c94, j95, rfl, rfl, hn96, hc97, hj98, hz99⟩
      refine TO.move rfl rfl rfl rfl ?_
      refine TO.extract rfl rfl rfl rfl rfl ?_
      refine TO.extract rfl rfl rfl rfl rfl ?_
      refine TO.assign rfl rfl rfl rfl ?_
      refine TO.assign rfl rfl rfl rfl ?_
      refine TO.done ?_
      refine X.seq_normal ?_
      refine T.trim (AllF.cons (t := 4) rfl (AllF.cons (t := 5) rfl (AllF.cons (t := 11) rfl (AllF.cons (t := 12) rfl (AllF.cons (t := 13) rfl (AllF.cons (t := 16) rfl (AllF.cons (t := 17) rfl (AllF.cons (t := 18) rfl (AllF.cons (t := 19) rfl AllF.nil))))))))) ?_
      refine T.seq ?_
      refine T.seq ?_
      rcases ite_some H with ⟨g101, H⟩ | ⟨g101, H⟩
      ·
        refine T.regionL (ll := [0, 1, 2, 3, 4, 5, 6, 7, 8, 9, 10, 11, 12, 13, 14, 15]) rfl ?_
        refine TO.move rfl rfl rfl rfl ?_
        refine TO.bin rfl rfl rfl rfl rfl rfl ?_
        refine TO.move rfl rfl rfl rfl ?_
        refine TO.decB (t := 89) (b' := true) rfl (decide_eq_true g101) ?_
        refine TO.shut rfl rfl rfl rfl ?_
        refine TO.shut rfl rfl rfl rfl ?_
        refine TO.pickT rfl rfl rfl rfl rfl ?_
        refine TO.move rfl rfl rfl rfl ?_
        refine TO.shut rfl rfl rfl rfl ?_
        refine TO.shut rfl rfl rfl rfl ?_
        refine TO.pickT rfl rfl rfl rfl rfl ?_
        refine TO.move rfl rfl rfl rfl ?_
        refine TO.shut rfl rfl rfl rfl ?_
        refine TO.shut rfl rfl rfl rfl ?_
        refine TO.shut rfl rfl rfl rfl ?_
        refine TO.shut rfl rfl rfl rfl ?_
        refine TO.pickT rfl rfl rfl rfl rfl ?_
        refine TO.done ?_
        refine X.seq_normal ?_
        refine T.trim (AllF.cons (t := 4) rfl (AllF.cons (t := 5) rfl (AllF.cons (t := 11) rfl (AllF.cons (t := 12) rfl (AllF.cons (t := 13) rfl (AllF.cons (t := 102) rfl AllF.nil)))))) ?_
        refine T.condT rfl rfl ?_
        refine T.seq ?_
        refine T.regionL (ll := [0]) rfl ?_
        refine TO.assign rfl rfl rfl rfl ?_
        refine TO.done ?_
        refine X.seq_normal ?_
        refine T.ret ?_
        refine X.then_ret ?_
        obtain rfl := ret1 H
        exact X.ret1 rfl rfl rfl rfl (Res.tmp rfl) Pick.nil ⟨rfl, rfl⟩
      ·
        rcases ite_some H with ⟨g102, H⟩ | ⟨g102, H⟩
        ·
          refine T.regionL (ll := [0, 1, 2, 3, 4, 5, 6, 7, 8, 9, 10, 11, 12, 13, 14, 15]) rfl ?_
          refine TO.move rfl rfl rfl rfl ?_
          refine TO.bin rfl rfl rfl rfl rfl rfl ?_
          refine TO.move rfl rfl rfl rfl ?_
          refine TO.decB (t := 89) (b' := false) rfl (decide_eq_false g101) ?_
          refine TO.move rfl rfl rfl rfl ?_
          refine TO.bin rfl rfl rfl rfl rfl rfl ?_
          refine TO.pickF rfl rfl rfl rfl rfl ?_
          refine TO.move rfl rfl rfl rfl ?_
          refine TO.decB (t := 93) (b' := true) rfl (decide_eq_true g102) ?_
          refine TO.shut rfl rfl rfl rfl ?_
          refine TO.shut rfl rfl rfl rfl ?_
          refine TO.pickT rfl rfl rfl rfl rfl ?_
          refine TO.move rfl rfl rfl rfl ?_
          refine TO.shut rfl rfl rfl rfl ?_
          refine TO.shut rfl rfl rfl rfl ?_
          refine TO.shut rfl rfl rfl rfl ?_
          refine TO.shut rfl rfl rfl rfl ?_
          refine TO.pickT rfl rfl rfl rfl rfl ?_
          refine TO.done ?_
          refine X.seq_normal ?_
          refine T.trim (AllF.cons (t := 4) rfl (AllF.cons (t := 5) rfl (AllF.cons (t := 11) rfl (AllF.cons (t := 12) rfl (AllF.cons (t := 13) rfl (AllF.cons (t := 102) rfl AllF.nil)))))) ?_
          refine T.condT rfl rfl ?_
          refine T.seq ?_
          refine T.regionL (ll := [0]) rfl ?_
          refine TO.assign rfl rfl rfl rfl ?_
          refine TO.done ?_
          refine X.seq_normal ?_
          refine T.ret ?_
          refine X.then_ret ?_
          obtain rfl := ret1 H
          exact X.ret1 rfl rfl rfl rfl (Res.tmp rfl) Pick.nil ⟨rfl, rfl⟩
        ·
          rcases ite_some H with ⟨g103, H⟩ | ⟨g103, H⟩
          ·
            refine T.regionL (ll := [0, 1, 2, 3, 4, 5, 6, 7, 8, 9, 10, 11, 12, 13, 14, 15]) rfl ?_
            refine TO.move rfl rfl rfl rfl ?_
            refine TO.bin rfl rfl rfl rfl rfl rfl ?_
            refine TO.move rfl rfl rfl rfl ?_
            refine TO.decB (t := 89) (b' := false) rfl (decide_eq_false g101) ?_
            refine TO.move rfl rfl rfl rfl ?_
            refine TO.bin rfl rfl rfl rfl rfl rfl ?_
            refine TO.pickF rfl rfl rfl rfl rfl ?_
            refine TO.move rfl rfl rfl rfl ?_
            refine TO.decB (t := 93) (b' := false) rfl (decide_eq_false g102) ?_
            refine TO.move rfl rfl rfl rfl ?_
            refine TO.bin rfl rfl rfl rfl rfl rfl ?_
            refine TO.pickF rfl rfl rfl rfl rfl ?_
            refine TO.move rfl rfl rfl rfl ?_
            refine TO.decB (t := 97) (b' := true) rfl (decide_eq_true g103) ?_
            refine TO.shut rfl rfl rfl rfl ?_
            refine TO.shut rfl rfl rfl rfl ?_
            refine TO.shut rfl rfl rfl rfl ?_
            refine TO.shut rfl rfl rfl rfl ?_
            refine TO.pickT rfl rfl rfl rfl rfl ?_
            refine TO.done ?_
            refine X.seq_normal ?_
            refine T.trim (AllF.cons (t := 4) rfl (AllF.cons (t := 5) rfl (AllF.cons (t := 11) rfl (AllF.cons (t := 12) rfl (AllF.cons (t := 13) rfl (AllF.cons (t := 102) rfl AllF.nil)))))) ?_
            refine T.condT rfl rfl ?_
            refine T.seq ?_
            refine T.regionL (ll := [0]) rfl ?_
            refine TO.assign rfl rfl rfl rfl ?_
            refine TO.done ?_
            refine X.seq_normal ?_
            refine T.ret ?_
            refine X.then_ret ?_
            obtain rfl := ret1 H
            exact X.ret1 rfl rfl rfl rfl (Res.tmp rfl) Pick.nil ⟨rfl, rfl⟩
          ·
            obtain ⟨r104, e105, H⟩ := bd_some H
            refine T.regionL (ll := [0, 1, 2, 3, 4, 5, 6, 7, 8, 9, 10, 11, 12, 13, 14, 15]) rfl ?_
            refine TO.move rfl rfl rfl rfl ?_
            refine TO.bin rfl rfl rfl rfl rfl rfl ?_
            refine TO.move rfl rfl rfl rfl ?_
            refine TO.decB (t := 89) (b' := false) rfl (decide_eq_false g101) ?_
            refine TO.move rfl rfl rfl rfl ?_
            refine TO.bin rfl rfl rfl rfl rfl rfl ?_
            refine TO.pickF rfl rfl rfl rfl rfl ?_
            refine TO.move rfl rfl rfl rfl ?_
            refine TO.decB (t := 93) (b' := false) rfl (decide_eq_false g102) ?_
            refine TO.move rfl rfl rfl rfl ?_
            refine TO.bin rfl rfl rfl rfl rfl rfl ?_
            refine TO.pickF rfl rfl rfl rfl rfl ?_
            refine TO.move rfl rfl rfl rfl ?_
            refine TO.decB (t := 97) (b' := false) rfl (decide_eq_false g103) ?_
            refine TO.move rfl rfl rfl rfl ?_
            refine TO.move rfl rfl rfl rfl ?_
            refine TO.callX TWLFlowWays.c25 rfl rfl rfl rfl (fun wc hwc => w_acequialow_Longs (a0 := r89) (b1 := r14) wc (hwc.rs (f := (intC .i64)) (s := 1) (xs := r89) (j := j95) (fun _ => rfl) (List.Mem.head _) hn96 hc97 hz99) (hwc.rs (f := (intC .i64)) (s := 1) (xs := r14) (j := j19) (fun _ => rfl) (List.Mem.tail _ (List.Mem.tail _ (List.Mem.tail _ (List.Mem.head _)))) hn20 hc21 hz23) e105) ?_
            rintro _ _ ⟨rfl, rfl⟩
            refine TO.not rfl rfl rfl rfl ?_
            refine TO.pickF rfl rfl rfl rfl rfl ?_
            refine TO.done ?_
            refine X.seq_normal ?_
            refine T.trim (AllF.cons (t := 4) rfl (AllF.cons (t := 5) rfl (AllF.cons (t := 11) rfl (AllF.cons (t := 12) rfl (AllF.cons (t := 13) rfl (AllF.cons (t := 102) rfl AllF.nil)))))) ?_
            rcases ite_some H with ⟨g106, H⟩ | ⟨g106, H⟩
            ·
              refine T.condT rfl g106 ?_
              refine T.seq ?_
              refine T.regionL (ll := [0]) rfl ?_
              refine TO.assign rfl rfl rfl rfl ?_
              refine TO.done ?_
              refine X.seq_normal ?_
              refine T.ret ?_
              refine X.then_ret ?_
              obtain rfl := ret1 H
              exact X.ret1 rfl rfl rfl rfl (Res.tmp rfl) Pick.nil ⟨rfl, rfl⟩
            ·
              refine T.condF rfl (Bool.eq_false_iff.2 g106) ?_
              refine T.skip ?_
              refine X.seq_normal ?_
              refine T.seq ?_
              refine T.meetSE1 (fun (fits111 : Bool) => m_acequialaw03_FlowWays_j3 arc4 r3 r14 r28 fits111 = some r0) (fun (fits111 : Bool) => [(4, .int .i64 arc4), (5, .pointer (some ⟨b1, 0, none⟩)), (11, .slice (sb ob16) n17 c18), (12, .slice (sb ob31) n32 c33), (20, .bool fits111)]) (fun (fits111 : Bool) => [(some b1, .cells #[.int .i64 r3.N, .int .i64 r3.S, .int .i64 r3.T, .slice (sb ob5) n6 c7] 24 (0, 0)), (ob5, .cells (arr arcC r3.Arcs j8).toArray 28 (0, 0)), (ob16, .cells (arr (intC .i64) r14 j19).toArray 2 (0, 0)), (ob31, .cells (arr hopC r28 j34).toArray 60 (0, 0))]) ?_ ?_
              ·
                rcases ite_some H with ⟨g107, H⟩ | ⟨g107, H⟩
                ·
                  rcases ite_some H with ⟨g108, H⟩ | ⟨g108, H⟩
                  ·
                    rcases ite_some H with ⟨g109, H⟩ | ⟨g109, H⟩
                    ·
                      refine T.regionL (ll := [0, 1, 2, 3, 4, 5, 6, 7, 8, 9, 10, 11, 12, 13, 14, 15, 16, 17, 18, 19, 20, 21, 22, 23, 24]) rfl ?_
                      refine TO.move rfl rfl rfl rfl ?_
                      refine TO.bin rfl rfl rfl rfl rfl rfl ?_
                      refine TO.move rfl rfl rfl rfl ?_
                      refine TO.decB (t := 105) (b' := true) rfl (decide_eq_true g107) ?_
                      refine TO.move rfl rfl rfl rfl ?_
                      refine TO.fieldAddr0 rfl rfl rfl rfl TWLFlowWays.f24_3 ?_
                      refine TO.load1 rfl rfl rfl rfl TWLFlowWays.s22 (List.Mem.tail _ (List.Mem.head _)) rfl ?_
                      refine TO.lenX (xs := r3.Arcs) hn9 rfl rfl rfl rfl rfl TWLFlowWays.l22 ?_
                      refine TO.bin rfl rfl rfl rfl rfl rfl ?_
                      refine TO.pickT rfl rfl rfl rfl rfl ?_
                      refine TO.move rfl rfl rfl rfl ?_
                      refine TO.decB (t := 112) (b' := true) rfl (decide_eq_true g108) ?_
                      refine TO.move rfl rfl rfl rfl ?_
                      refine TO.lenX (xs := r28) hn35 rfl rfl rfl rfl rfl TWLFlowWays.l54 ?_
                      refine TO.bin rfl rfl rfl rfl rfl rfl ?_
                      refine TO.move rfl rfl rfl rfl ?_
                      refine TO.decB (t := 116) (b' := true) rfl (decide_eq_true g109) ?_
                      refine TO.shut rfl rfl rfl rfl ?_
                      refine TO.shut rfl rfl rfl rfl ?_
                      refine TO.shut rfl rfl rfl rfl ?_
                      refine TO.shut rfl rfl rfl rfl ?_
                      refine TO.shut rfl rfl rfl rfl ?_
                      refine TO.shut rfl rfl rfl rfl ?_
                      refine TO.shut rfl rfl rfl rfl ?_
                      refine TO.shut rfl rfl rfl rfl ?_
                      refine TO.pickT rfl rfl rfl rfl rfl ?_
                      refine TO.pickT rfl rfl rfl rfl rfl ?_
                      refine TO.assign rfl rfl rfl rfl ?_
                      refine TO.done ?_
                      exact X.metE1 true H (AllF.cons rfl (AllF.cons rfl (AllF.cons rfl (AllF.cons rfl (AllF.cons rfl AllF.nil))))) (Pick.cons (Take.tail (Take.head _ _)) (Pick.cons (Take.tail (Take.head _ _)) (Pick.cons (Take.tail (Take.head _ _)) (Pick.cons (Take.tail (Take.head _ _)) Pick.nil))))
                    ·
                      obtain ⟨g110, H⟩ := gd_some H
                      refine T.regionL (ll := [0, 1, 2, 3, 4, 5, 6, 7, 8, 9, 10, 11, 12, 13, 14, 15, 16, 17, 18, 19, 20, 21, 22, 23, 24]) rfl ?_
                      refine TO.move rfl rfl rfl rfl ?_
                      refine TO.bin rfl rfl rfl rfl rfl rfl ?_
                      refine TO.move rfl rfl rfl rfl ?_
                      refine TO.decB (t := 105) (b' := true) rfl (decide_eq_true g107) ?_
                      refine TO.move rfl rfl rfl rfl ?_
                      refine TO.fieldAddr0 rfl rfl rfl rfl TWLFlowWays.f24_3 ?_
                      refine TO.load1 rfl rfl rfl rfl TWLFlowWays.s22 (List.Mem.tail _ (List.Mem.head _)) rfl ?_
                      refine TO.lenX (xs := r3.Arcs) hn9 rfl rfl rfl rfl rfl TWLFlowWays.l22 ?_
                      refine TO.bin rfl rfl rfl rfl rfl rfl ?_
                      refine TO.pickT rfl rfl rfl rfl rfl ?_
                      refine TO.move rfl rfl rfl rfl ?_
                      refine TO.decB (t := 112) (b' := true) rfl (decide_eq_true g108) ?_
                      refine TO.move rfl rfl rfl rfl ?_
                      refine TO.lenX (xs := r28) hn35 rfl rfl rfl rfl rfl TWLFlowWays.l54 ?_
                      refine TO.bin rfl rfl rfl rfl rfl rfl ?_
                      refine TO.move rfl rfl rfl rfl ?_
                      refine TO.decB (t := 116) (b' := false) rfl (decide_eq_false g109) ?_
                      refine TO.fieldAddr0 rfl rfl rfl rfl TWLFlowWays.f24_3 ?_
                      refine TO.load1 rfl rfl rfl rfl TWLFlowWays.s22 (List.Mem.tail _ (List.Mem.head _)) rfl ?_
                      refine TO.move rfl rfl rfl rfl ?_
                      refine TO.ixV hz12 hc10 hn9 g110 rfl rfl rfl rfl rfl TWLFlowWays.l22 TWLFlowWays.n28 ?_
                      refine TO.faR rfl rfl rfl rfl TWLFlowWays.f28_0 ?_
                      refine TO.ldFV (f := arcC) (v := .int .i64 ((r3.Arcs.getD arc4.toNat default).fr)) default (fun _ => rfl) hz12 hc10 hn9 g110 rfl rfl rfl rfl rfl TWLFlowWays.s3 (List.Mem.tail _ (List.Mem.tail _ (List.Mem.head _))) ?_
                      refine TO.move rfl rfl rfl rfl ?_
                      refine TO.bin rfl rfl rfl rfl rfl rfl ?_
                      refine TO.pickF rfl rfl rfl rfl rfl ?_
                      refine TO.pickT rfl rfl rfl rfl rfl ?_
                      refine TO.assign rfl rfl rfl rfl ?_
                      refine TO.done ?_
                      exact X.metE1 (decide (((r3.Arcs.getD arc4.toNat default).fr) = r29)) H (AllF.cons rfl (AllF.cons rfl (AllF.cons rfl (AllF.cons rfl (AllF.cons rfl AllF.nil))))) (Pick.cons (Take.tail (Take.head _ _)) (Pick.cons (Take.tail (Take.head _ _)) (Pick.cons (Take.tail (Take.head _ _)) (Pick.cons (Take.tail (Take.head _ _)) Pick.nil))))
                  ·
                    refine T.regionL (ll := [0, 1, 2, 3, 4, 5, 6, 7, 8, 9, 10, 11, 12, 13, 14, 15, 16, 17, 18, 19, 20, 21, 22, 23, 24]) rfl ?_
                    refine TO.move rfl rfl rfl rfl ?_
                    refine TO.bin rfl rfl rfl rfl rfl rfl ?_
                    refine TO.move rfl rfl rfl rfl ?_
                    refine TO.decB (t := 105) (b' := true) rfl (decide_eq_true g107) ?_
                    refine TO.move rfl rfl rfl rfl ?_
                    refine TO.fieldAddr0 rfl rfl rfl rfl TWLFlowWays.f24_3 ?_
                    refine TO.load1 rfl rfl rfl rfl TWLFlowWays.s22 (List.Mem.tail _ (List.Mem.head _)) rfl ?_
                    refine TO.lenX (xs := r3.Arcs) hn9 rfl rfl rfl rfl rfl TWLFlowWays.l22 ?_
                    refine TO.bin rfl rfl rfl rfl rfl rfl ?_
                    refine TO.pickT rfl rfl rfl rfl rfl ?_
                    refine TO.move rfl rfl rfl rfl ?_
                    refine TO.decB (t := 112) (b' := false) rfl (decide_eq_false g108) ?_
                    refine TO.shut rfl rfl rfl rfl ?_
                    refine TO.shut rfl rfl rfl rfl ?_
                    refine TO.shut rfl rfl rfl rfl ?_
                    refine TO.shut rfl rfl rfl rfl ?_
                    refine TO.shutU rfl rfl rfl rfl ?_
                    refine TO.shutU rfl rfl rfl rfl ?_
                    refine TO.shutU rfl rfl rfl rfl ?_
                    refine TO.shutU rfl rfl rfl rfl ?_
                    refine TO.shutU rfl rfl rfl rfl ?_
                    refine TO.shutU rfl rfl rfl rfl ?_
                    refine TO.shutU rfl rfl rfl rfl ?_
                    refine TO.shutU rfl rfl rfl rfl ?_
                    refine TO.shut rfl rfl rfl rfl ?_
                    refine TO.pickF rfl rfl rfl rfl rfl ?_
                    refine TO.assign rfl rfl rfl rfl ?_
                    refine TO.done ?_
                    exact X.metE1 false H (AllF.cons rfl (AllF.cons rfl (AllF.cons rfl (AllF.cons rfl (AllF.cons rfl AllF.nil))))) (Pick.cons (Take.tail (Take.head _ _)) (Pick.cons (Take.tail (Take.head _ _)) (Pick.cons (Take.tail (Take.head _ _)) (Pick.cons (Take.tail (Take.head _ _)) Pick.nil))))
                ·
                  refine T.regionL (ll := [0, 1, 2, 3, 4, 5, 6, 7, 8, 9, 10, 11, 12, 13, 14, 15, 16, 17, 18, 19, 20, 21, 22, 23, 24]) rfl ?_
                  refine TO.move rfl rfl rfl rfl ?_
                  refine TO.bin rfl rfl rfl rfl rfl rfl ?_
                  refine TO.move rfl rfl rfl rfl ?_
                  refine TO.decB (t := 105) (b' := false) rfl (decide_eq_false g107) ?_
                  refine TO.shut rfl rfl rfl rfl ?_
                  refine TO.shut rfl rfl rfl rfl ?_
                  refine TO.shut rfl rfl rfl rfl ?_
                  refine TO.shut rfl rfl rfl rfl ?_
                  refine TO.shut rfl rfl rfl rfl ?_
                  refine TO.pickF rfl rfl rfl rfl rfl ?_
                  refine TO.move rfl rfl rfl rfl ?_
                  refine TO.shut rfl rfl rfl rfl ?_
                  refine TO.shut rfl rfl rfl rfl ?_
                  refine TO.shut rfl rfl rfl rfl ?_
                  refine TO.shut rfl rfl rfl rfl ?_
                  refine TO.shutU rfl rfl rfl rfl ?_
                  refine TO.shutU rfl rfl rfl rfl ?_
                  refine TO.shutU rfl rfl rfl rfl ?_
                  refine TO.shutU rfl rfl rfl rfl ?_
                  refine TO.shutU rfl rfl rfl rfl ?_
                  refine TO.shutU rfl rfl rfl rfl ?_
                  refine TO.shutU rfl rfl rfl rfl ?_
                  refine TO.shutU rfl rfl rfl rfl ?_
                  refine TO.shut rfl rfl rfl rfl ?_
                  refine TO.pickF rfl rfl rfl rfl rfl ?_
                  refine TO.assign rfl rfl rfl rfl ?_
                  refine TO.done ?_
                  exact X.metE1 false H (AllF.cons rfl (AllF.cons rfl (AllF.cons rfl (AllF.cons rfl (AllF.cons rfl AllF.nil))))) (Pick.cons (Take.tail (Take.head _ _)) (Pick.cons (Take.tail (Take.head _ _)) (Pick.cons (Take.tail (Take.head _ _)) (Pick.cons (Take.tail (Take.head _ _)) Pick.nil))))
              · rintro fits111 H
                unfold m_acequialaw03_FlowWays_j3 at H
                refine T.seq ?_
                obtain ⟨g114, H⟩ := gd_some H
                obtain ⟨g124, H⟩ := gd_some H
                obtain ⟨⟨r132, r133⟩, e134, H⟩ := bd_some H
                apply T.drawL [⟨[], false, [], relV _⟩, ⟨[], false, [], relV _⟩, ⟨[], false, [], fun _ v e => ∃ (b112 : Nat), v = .slice (some ⟨b112, 0, none⟩) 0 0 ∧ e = [(some b112, .cells (arr hopC ([] : List Hop) ([])).toArray 60 (0, 0))]⟩, ⟨[], false, [], relV _⟩, ⟨[2, 3], false, [2], fun _ v e => ∃ (ob115 : Option Nat) (c116 : Nat) (j117 : List Value), v = .slice (sb ob115) (0 + n32) c116 ∧ e = [(ob115, .cells (arr hopC r28 j117).toArray 60 (0, 0))] ∧ (0 + n32) ≤ c116 ∧ j117.length = (c116 - (0 + n32)) * 2 ∧ (ob115 = none → c116 = 0)⟩, ⟨[], false, [], relV _⟩, ⟨[5], false, [], relV _⟩, ⟨[6], false, [], fun _ v e => ∃ (b122 : Nat), v = .slice (some ⟨b122, 0, none⟩) 1 1 ∧ e = [(some b122, .cells (arr hopC ([(Hop.mk arc4 false)]) ([])).toArray 60 (0, 0))]⟩, ⟨[4, 7], false, [4], fun _ v e => ∃ (ob125 : Option Nat) (c126 : Nat) (j127 : List Value), v = .slice (sb ob125) ((0 + n32) + 1) c126 ∧ e = [(ob125, .cells (arr hopC (r28 ++ ([(Hop.mk arc4 false)])) j127).toArray 60 (0, 0))] ∧ ((0 + n32) + 1) ≤ c126 ∧ j127.length = (c126 - ((0 + n32) + 1)) * 2 ∧ (ob125 = none → c126 = 0)⟩, ⟨[0, 1, 8], false, [], relV _⟩, ⟨[9], false, [], relV _⟩, ⟨[10], false, [], relV _⟩, ⟨[10], false, [], relV _⟩, ⟨[11], false, [], relV _⟩] [128, 129, 130, 131, 132, 133, 134, 135, 136, 137, 127, 138, 139, 21] 14 (HRk [[]]) [[]] [] [(some b1, .cells #[.int .i64 r3.N, .int .i64 r3.S, .int .i64 r3.T, .slice (sb ob5) n6 c7] 24 (0, 0)), (ob5, .cells (arr arcC r3.Arcs j8).toArray 28 (0, 0)), (ob16, .cells (arr (intC .i64) r14 j19).toArray 2 (0, 0)), (ob31, .cells (arr hopC r28 j34).toArray 60 (0, 0))]
                · exact mixed
                · exact rfl
                · kernel_rfl
                · kernel_rfl
                · kernel_rfl
                · exact rfl
                · exact rfl
                · exact rfl
                · exact rfl
                · exact (by repeat (first | exact Pick.refl _ | exact Pick.nil | apply Pick.none | refine Pick.cons (by repeat (first | exact Take.head _ _ | apply Take.tail)) ?_))
                · refine ⟨?_, ?_, ?_, ?_, ?_, ?_, ?_, ?_, ?_, ?_, ?_, ?_, ?_, ?_, trivial⟩
                  · rintro vs es Es Hx -
                    refine TO.reenv (D := []) rfl ?_
                    refine TO.loadA rfl rfl rfl rfl TWLFlowWays.a24 (List.Mem.head _) rfl ?_
                    refine TO.done ?_; exact X.obQ rfl ⟨rfl, rfl⟩ (Pick.refl _) rfl
                  · rintro vs es Es Hx -
                    refine TO.reenv (D := []) rfl ?_
                    refine TO.move rfl rfl rfl rfl ?_
                    refine TO.done ?_; exact X.obQ rfl ⟨rfl, rfl⟩ (Pick.refl _) rfl
                  · rintro vs es Es Hx -
                    refine TO.reenv (D := []) rfl ?_
                    refine TO.buildNone rfl rfl rfl TWLFlowWays.l54 TWLFlowWays.n60 ?_; intro b112
                    refine TO.done ?_; exact X.obQ rfl ⟨b112, rfl, rfl⟩ (by repeat (first | exact Pick.refl _ | exact Pick.nil | apply Pick.none | refine Pick.cons (by repeat (first | exact Take.head _ _ | apply Take.tail)) ?_)) rfl
                  · rintro vs es Es Hx -
                    refine TO.reenv (D := []) rfl ?_
                    refine TO.move rfl rfl rfl rfl ?_
                    refine TO.done ?_; exact X.obQ rfl ⟨rfl, rfl⟩ (Pick.refl _) rfl
                  · rintro vs es Es Hx ⟨⟨b112, h_2, e_2⟩, ⟨h_3, e_3⟩, -⟩
                    refine TO.reenv (D := [(130, vs 2), (131, vs 3)]) rfl ?_; rw [h_2, h_3]
                    refine TO.reheap (H := [(some b1, .cells #[.int .i64 r3.N, .int .i64 r3.S, .int .i64 r3.T, .slice (sb ob5) n6 c7] 24 (0, 0)), (ob5, .cells (arr arcC r3.Arcs j8).toArray 28 (0, 0)), (ob16, .cells (arr (intC .i64) r14 j19).toArray 2 (0, 0)), (ob31, .cells (arr hopC r28 j34).toArray 60 (0, 0))] ++ ([(some b112, .cells (arr hopC ([] : List Hop) ([])).toArray 60 (0, 0))] ++ Hx)) (by show _ ++ ((es 2 ++ (es 3 ++ ([]))) ++ _) = _; rw [e_2, e_3]; rfl) ?_
                    refine TO.app (f := hopC) (s := 2) (xs := ([] : List Hop)) (ob := some b112) (j := ([])) (ys := r28) (fun _ => rfl) (fun _ => rfl) TWLFlowWaysel54 g114 rfl rfl rfl rfl rfl (Take.tail (Take.tail (Take.tail (Take.tail (Take.head _ _))))) rfl (Nat.le_refl _) (zeroJ 0 _) someZ (fun wc hwc => (hwc.rs (f := hopC) (s := 2) (xs := r28) (j := j34) (fun _ => rfl) (List.Mem.tail _ (List.Mem.tail _ (List.Mem.tail _ (List.Mem.head _)))) hn35 hc36 hz38)) ?_; intro ob115 c116 j117 hc118 hj119 hz120
                    refine TO.done ?_; exact X.obQ rfl ⟨ob115, c116, j117, rfl, rfl, hc118, hj119, hz120⟩ (by show Pick (_ ++ (_ ++ ((es 3 ++ ([])) ++ _))) _; rw [e_3]; exact (by repeat (first | exact Pick.refl _ | exact Pick.nil | apply Pick.none | refine Pick.cons (by repeat (first | exact Take.head _ _ | apply Take.tail)) ?_))) (by show [(130, vs 2), (131, vs 3)] = _; rw [h_2, h_3])
                  · rintro vs es Es Hx -
                    refine TO.reenv (D := []) rfl ?_
                    refine TO.move rfl rfl rfl rfl ?_
                    refine TO.done ?_; exact X.obQ rfl ⟨rfl, rfl⟩ (Pick.refl _) rfl
                  · rintro vs es Es Hx ⟨⟨h_5, e_5⟩, -⟩
                    refine TO.reenv (D := [(133, vs 5)]) rfl ?_; rw [h_5]
                    refine TO.buildS (t := 60) [.int .i64 0, .bool false] [0, 1] rfl rfl rfl rfl (by simp only [setAll, setCells, Value.cells, List.toList_toArray, List.getD_cons_zero, List.getD_cons_succ, List.set_cons_zero, List.set_cons_succ]; rfl) (by kernel_rfl) ?_
                    refine TO.done ?_; exact X.obQ rfl ⟨rfl, rfl⟩ (Pick.refl _) (by show [(133, vs 5)] = _; rw [h_5])
                  · rintro vs es Es Hx ⟨⟨h_6, e_6⟩, -⟩
                    refine TO.reenv (D := [(134, vs 6)]) rfl ?_; rw [h_6]
                    refine TO.buildSliceS [.int .i64 0, .bool false] [0] rfl rfl rfl rfl TWLFlowWays.l54 TWLFlowWays.n60 TWLFlowWays.z60 rfl rfl (by simp only [setAll, setCells, Value.cells, List.toList_toArray, List.getD_cons_zero, List.getD_cons_succ, List.set_cons_zero, List.set_cons_succ]; rfl) (by kernel_rfl) ?_; intro b122
                    refine TO.done ?_; exact X.obQ rfl ⟨b122, rfl, rfl⟩ (by repeat (first | exact Pick.refl _ | exact Pick.nil | apply Pick.none | refine Pick.cons (by repeat (first | exact Take.head _ _ | apply Take.tail)) ?_)) (by show [(134, vs 6)] = _; rw [h_6])
                  · rintro vs es Es Hx ⟨⟨ob115, c116, j117, h_4, e_4, hc118, hj119, hz120⟩, ⟨b122, h_7, e_7⟩, -⟩
                    refine TO.reenv (D := [(132, vs 4), (135, vs 7)]) rfl ?_; rw [h_4, h_7]
                    refine TO.reheap (H := [(some b1, .cells #[.int .i64 r3.N, .int .i64 r3.S, .int .i64 r3.T, .slice (sb ob5) n6 c7] 24 (0, 0)), (ob5, .cells (arr arcC r3.Arcs j8).toArray 28 (0, 0)), (ob16, .cells (arr (intC .i64) r14 j19).toArray 2 (0, 0)), (ob31, .cells (arr hopC r28 j34).toArray 60 (0, 0))] ++ ([(ob115, .cells (arr hopC r28 j117).toArray 60 (0, 0)), (some b122, .cells (arr hopC ([(Hop.mk arc4 false)]) ([])).toArray 60 (0, 0))] ++ Hx)) (by show _ ++ ((es 4 ++ (es 7 ++ ([]))) ++ _) = _; rw [e_4, e_7]; rfl) ?_
                    refine TO.app (f := hopC) (s := 2) (xs := r28) (ob := ob115) (j := j117) (ys := [(Hop.mk arc4 false)]) (fun _ => rfl) (fun _ => rfl) TWLFlowWaysel54 g124 rfl rfl rfl rfl rfl (Take.tail (Take.tail (Take.tail (Take.tail (Take.head _ _))))) (lenApp0 hn35) hc118 hj119 hz120 (fun wc hwc => (hwc.rs (f := hopC) (s := 2) (xs := [(Hop.mk arc4 false)]) (j := ([])) (fun _ => rfl) (List.Mem.tail _ (List.Mem.tail _ (List.Mem.tail _ (List.Mem.tail _ (List.Mem.tail _ (List.Mem.head _)))))) rfl (Nat.le_refl _) someZ)) ?_; intro ob125 c126 j127 hc128 hj129 hz130
                    refine TO.done ?_; exact X.obQ rfl ⟨ob125, c126, j127, rfl, rfl, hc128, hj129, hz130⟩ (by show Pick (_ ++ (_ ++ ((es 7 ++ ([])) ++ _))) _; rw [e_7]; exact (by repeat (first | exact Pick.refl _ | exact Pick.nil | apply Pick.none | refine Pick.cons (by repeat (first | exact Take.head _ _ | apply Take.tail)) ?_))) (by show [(132, vs 4), (135, vs 7)] = _; rw [h_4, h_7])
                  · rintro vs es Es Hx ⟨⟨h_0, e_0⟩, ⟨h_1, e_1⟩, ⟨ob125, c126, j127, h_8, e_8, hc128, hj129, hz130⟩, -⟩
                    refine TO.reenv (D := [(128, vs 0), (129, vs 1), (136, vs 8)]) rfl ?_; rw [h_0, h_1, h_8]
                    refine TO.reheap (H := [(some b1, .cells #[.int .i64 r3.N, .int .i64 r3.S, .int .i64 r3.T, .slice (sb ob5) n6 c7] 24 (0, 0)), (ob5, .cells (arr arcC r3.Arcs j8).toArray 28 (0, 0)), (ob16, .cells (arr (intC .i64) r14 j19).toArray 2 (0, 0)), (ob31, .cells (arr hopC r28 j34).toArray 60 (0, 0))] ++ ([(ob125, .cells (arr hopC (r28 ++ ([(Hop.mk arc4 false)])) j127).toArray 60 (0, 0))] ++ Hx)) (by show _ ++ ((es 0 ++ (es 1 ++ (es 8 ++ ([])))) ++ _) = _; rw [e_0, e_1, e_8]; rfl) ?_
                    refine TO.callX TWLFlowWays.c34 rfl rfl rfl rfl (fun wc hwc => w_flow_Room (n0 := r3) (f1 := r14) (l2 := (r28 ++ ([(Hop.mk arc4 false)]))) wc (hwc.rs (f := arcC) (s := 3) (xs := r3.Arcs) (j := j8) (fun _ => rfl) (List.Mem.tail _ (List.Mem.head _)) hn9 hc10 hz12) (hwc.rs (f := (intC .i64)) (s := 1) (xs := r14) (j := j19) (fun _ => rfl) (List.Mem.tail _ (List.Mem.tail _ (List.Mem.head _))) hn20 hc21 hz23) (hwc.rs (f := hopC) (s := 2) (xs := (r28 ++ ([(Hop.mk arc4 false)]))) (j := j127) (fun _ => rfl) (List.Mem.tail _ (List.Mem.tail _ (List.Mem.tail _ (List.Mem.tail _ (List.Mem.head _))))) (lenApp (lenApp0 hn35) rfl) hc128 hz130) e134) ?_
                    rintro _ _ ⟨rfl, rfl⟩
                    refine TO.done ?_; exact X.obQ rfl ⟨rfl, rfl⟩ (by show Pick (_ ++ (_ ++ ((es 0 ++ (es 1 ++ (es 8 ++ ([])))) ++ _))) _; rw [e_0, e_1, e_8]; exact (by repeat (first | exact Pick.refl _ | exact Pick.nil | apply Pick.none | refine Pick.cons (by repeat (first | exact Take.head _ _ | apply Take.tail)) ?_))) (by show [(128, vs 0), (129, vs 1), (136, vs 8)] = _; rw [h_0, h_1, h_8])
                  · rintro vs es Es Hx ⟨⟨h_9, e_9⟩, -⟩
                    refine TO.reenv (D := [(137, vs 9)]) rfl ?_; rw [h_9]
                    refine TO.move rfl rfl rfl rfl ?_
                    refine TO.done ?_; exact X.obQ rfl ⟨rfl, rfl⟩ (Pick.refl _) (by show [(137, vs 9)] = _; rw [h_9])
                  · rintro vs es Es Hx ⟨⟨h_10, e_10⟩, -⟩
                    refine TO.reenv (D := [(127, vs 10)]) rfl ?_; rw [h_10]
                    refine TO.extract rfl rfl rfl rfl rfl ?_
                    refine TO.done ?_; exact X.obQ rfl ⟨rfl, rfl⟩ (Pick.refl _) (by show [(127, vs 10)] = _; rw [h_10])
                  · rintro vs es Es Hx ⟨⟨h_10, e_10⟩, -⟩
                    refine TO.reenv (D := [(127, vs 10)]) rfl ?_; rw [h_10]
                    refine TO.extract rfl rfl rfl rfl rfl ?_
                    refine TO.done ?_; exact X.obQ rfl ⟨rfl, rfl⟩ (Pick.refl _) (by show [(127, vs 10)] = _; rw [h_10])
                  · rintro vs es Es Hx ⟨⟨h_11, e_11⟩, -⟩
                    refine TO.reenv (D := [(138, vs 11)]) rfl ?_; rw [h_11]
                    refine TO.assign rfl rfl rfl rfl ?_
                    refine TO.done ?_; exact X.obQ rfl ⟨rfl, rfl⟩ (Pick.refl _) (by show [(138, vs 11)] = _; rw [h_11])
                · rintro vs es hb ⟨⟨h_0, e_0⟩, ⟨h_1, e_1⟩, ⟨b112, h_2, e_2⟩, ⟨h_3, e_3⟩, ⟨ob115, c116, j117, h_4, e_4, hc118, hj119, hz120⟩, ⟨h_5, e_5⟩, ⟨h_6, e_6⟩, ⟨b122, h_7, e_7⟩, ⟨ob125, c126, j127, h_8, e_8, hc128, hj129, hz130⟩, ⟨h_9, e_9⟩, ⟨h_10, e_10⟩, ⟨h_11, e_11⟩, ⟨h_12, e_12⟩, ⟨h_13, e_13⟩, -⟩ hHR
                  obtain rfl : hb = [] := hHR
                  refine TO.reenv (D := [(128, vs 0), (129, vs 1), (130, vs 2), (131, vs 3), (132, vs 4), (133, vs 5), (134, vs 6), (135, vs 7), (136, vs 8), (137, vs 9), (127, vs 10), (138, vs 11), (139, vs 12), (21, vs 13)]) rfl ?_
                  refine TO.reheap (H := [(some b1, .cells #[.int .i64 r3.N, .int .i64 r3.S, .int .i64 r3.T, .slice (sb ob5) n6 c7] 24 (0, 0)), (ob5, .cells (arr arcC r3.Arcs j8).toArray 28 (0, 0)), (ob16, .cells (arr (intC .i64) r14 j19).toArray 2 (0, 0)), (ob31, .cells (arr hopC r28 j34).toArray 60 (0, 0)), (some b122, .cells (arr hopC ([(Hop.mk arc4 false)]) ([])).toArray 60 (0, 0)), (ob125, .cells (arr hopC (r28 ++ ([(Hop.mk arc4 false)])) j127).toArray 60 (0, 0))]) (by show _ ++ (_ ++ (es 0 ++ (es 1 ++ (es 3 ++ (es 5 ++ (es 6 ++ (es 7 ++ (es 8 ++ (es 9 ++ (es 10 ++ (es 11 ++ (es 12 ++ (es 13 ++ ([])))))))))))))) = _; rw [e_0, e_1, e_3, e_5, e_6, e_7, e_8, e_9, e_10, e_11, e_12, e_13]; rfl) ?_
                  rw [h_0, h_1, h_2, h_3, h_4, h_5, h_6, h_7, h_8, h_9, h_10, h_11, h_12, h_13]
                  clear h_13 h_12 h_11 h_10 h_9 h_8 h_7 h_6 h_5 h_4 h_3 h_2 h_1 h_0 e_0 e_1 e_2 e_3 e_4 e_5 e_6 e_7 e_8 e_9 e_10 e_11 e_12 e_13
                  refine TO.assign rfl rfl rfl rfl ?_
                  refine TO.done ?_
                  refine X.seq_normal ?_
                  refine T.trim (AllF.cons (t := 5) rfl (AllF.cons (t := 11) rfl (AllF.cons (t := 12) rfl (AllF.cons (t := 20) rfl (AllF.cons (t := 22) rfl AllF.nil))))) ?_
                  refine T.seq ?_
                  refine T.seq ?_
                  rcases ite_some H with ⟨g135, H⟩ | ⟨g135, H⟩
                  ·
                    refine T.regionL (ll := [0, 1, 2, 3, 4, 5, 6, 7, 8, 9, 10, 11]) rfl ?_
                    refine TO.move rfl rfl rfl rfl ?_
                    refine TO.bin rfl rfl rfl rfl rfl rfl ?_
                    refine TO.move rfl rfl rfl rfl ?_
                    refine TO.neb rfl rfl rfl rfl rfl TWLFlowWays.u4 ?_
                    refine TO.move rfl rfl rfl rfl ?_
                    refine TO.decB (t := 144) (b' := true) rfl g135 ?_
                    refine TO.shut rfl rfl rfl rfl ?_
                    refine TO.shut rfl rfl rfl rfl ?_
                    refine TO.shut rfl rfl rfl rfl ?_
                    refine TO.shutU rfl rfl rfl rfl ?_
                    refine TO.shutU rfl rfl rfl rfl ?_
                    refine TO.shut rfl rfl rfl rfl ?_
                    refine TO.pickT rfl rfl rfl rfl rfl ?_
                    refine TO.done ?_
                    refine X.seq_normal ?_
                    refine T.trim (AllF.cons (t := 5) rfl (AllF.cons (t := 11) rfl (AllF.cons (t := 12) rfl (AllF.cons (t := 151) rfl AllF.nil)))) ?_
                    refine T.condT rfl rfl ?_
                    refine T.seq ?_
                    refine T.regionL (ll := [0]) rfl ?_
                    refine TO.assign rfl rfl rfl rfl ?_
                    refine TO.done ?_
                    refine X.seq_normal ?_
                    refine T.ret ?_
                    refine X.then_ret ?_
                    obtain rfl := ret1 H
                    exact X.ret1 rfl rfl rfl rfl (Res.tmp rfl) Pick.nil ⟨rfl, rfl⟩
                  ·
                    rcases ite_some H with ⟨g136, H⟩ | ⟨g136, H⟩
                    ·
                      refine T.regionL (ll := [0, 1, 2, 3, 4, 5, 6, 7, 8, 9, 10, 11]) rfl ?_
                      refine TO.move rfl rfl rfl rfl ?_
                      refine TO.bin rfl rfl rfl rfl rfl rfl ?_
                      refine TO.move rfl rfl rfl rfl ?_
                      refine TO.neb rfl rfl rfl rfl rfl TWLFlowWays.u4 ?_
                      refine TO.move rfl rfl rfl rfl ?_
                      refine TO.decB (t := 144) (b' := false) rfl (Bool.eq_false_iff.2 g135) ?_
                      refine TO.move rfl rfl rfl rfl ?_
                      refine TO.not rfl rfl rfl rfl ?_
                      refine TO.move rfl rfl rfl rfl ?_
                      refine TO.decB (t := 147) (b' := true) rfl g136 ?_
                      refine TO.move rfl rfl rfl rfl ?_
                      refine TO.bin rfl rfl rfl rfl rfl rfl ?_
                      refine TO.pickT rfl rfl rfl rfl rfl ?_
                      refine TO.pickF rfl rfl rfl rfl rfl ?_
                      refine TO.done ?_
                      refine X.seq_normal ?_
                      refine T.trim (AllF.cons (t := 5) rfl (AllF.cons (t := 11) rfl (AllF.cons (t := 12) rfl (AllF.cons (t := 151) rfl AllF.nil)))) ?_
                      rcases ite_some H with ⟨g137, H⟩ | ⟨g137, H⟩
                      ·
                        refine T.condPT rfl g137 ?_
                        refine T.seq ?_
                        refine T.regionL (ll := [0]) rfl ?_
                        refine TO.assign rfl rfl rfl rfl ?_
                        refine TO.done ?_
                        refine X.seq_normal ?_
                        refine T.ret ?_
                        refine X.then_ret ?_
                        obtain rfl := ret1 H
                        exact X.ret1 rfl rfl rfl rfl (Res.tmp rfl) Pick.nil ⟨rfl, rfl⟩
                      ·
                        refine T.condPF rfl g137 ?_
                        refine T.skip ?_
                        refine X.seq_normal ?_
                        refine T.seq ?_
                        refine T.seq ?_
                        refine T.regionL (ll := [0, 1, 2]) rfl ?_
                        refine TO.move rfl rfl rfl rfl ?_
                        refine TO.lenX (xs := r14) hn20 rfl rfl rfl rfl rfl TWLFlowWays.l25 ?_
                        refine TO.bin rfl rfl rfl rfl rfl rfl ?_
                        refine TO.done ?_
                        refine X.seq_normal ?_
                        rcases ite_some H with ⟨g138, H⟩ | ⟨g138, H⟩
                        ·
                          refine T.condPT rfl g138 ?_
                          refine T.seq ?_
                          obtain ⟨r139, e140, H⟩ := bd_some H
                          refine T.regionL (ll := [0, 1]) rfl ?_
                          refine TO.callX TWLFlowWays.c32 rfl rfl rfl rfl (fun wc hwc => w_acequialaw03_awake  wc  e140) ?_
                          rintro _ _ ⟨rfl, rfl⟩
                          refine TO.assign rfl rfl rfl rfl ?_
                          refine TO.done ?_
                          refine X.seq_normal ?_
                          refine T.trim (AllF.cons (t := 10) rfl AllF.nil) ?_
                          refine T.ret ?_
                          refine X.then_ret ?_
                          obtain rfl := ret1 H
                          exact X.ret1 rfl rfl rfl rfl (Res.tmp rfl) Pick.nil ⟨rfl, rfl⟩
                        ·
                          refine T.condPF rfl g138 ?_
                          refine T.skip ?_
                          refine X.seq_normal ?_
                          refine T.seq ?_
                          obtain ⟨g141, H⟩ := gd_some H
                          obtain ⟨g142, H⟩ := gd_some H
                          obtain ⟨g143, H⟩ := gd_some H
                          refine T.regionL (ll := [0, 1, 2, 3, 4, 5, 6, 7, 8]) rfl ?_
                          refine TO.move rfl rfl rfl rfl ?_
                          refine TO.fieldAddr0 rfl rfl rfl rfl TWLFlowWays.f24_3 ?_
                          refine TO.load1 rfl rfl rfl rfl TWLFlowWays.s22 (List.Mem.head _) rfl ?_
                          refine TO.ixV hz12 hc10 hn9 g141 rfl rfl rfl rfl rfl TWLFlowWays.l22 TWLFlowWays.n28 ?_
                          refine TO.faR rfl rfl rfl rfl TWLFlowWays.f28_2 ?_
                          refine TO.ldFV (f := arcC) (v := .int .i64 ((r3.Arcs.getD (0 : Int).toNat default).cap)) default (fun _ => rfl) hz12 hc10 hn9 g141 rfl rfl rfl rfl rfl TWLFlowWays.s2 (List.Mem.tail _ (List.Mem.head _)) ?_
                          refine TO.addG g142 rfl rfl rfl rfl rfl ?_
                          refine TO.ixV hz23 hc21 hn20 g143 rfl rfl rfl rfl rfl TWLFlowWays.l25 TWLFlowWays.n2 ?_
                          refine TO.stIV hz23 hc21 hn20 g143 rfl rfl rfl rfl (Take.tail (Take.tail (Take.head _ _))) TWLFlowWays.n2 ?_
                          refine TO.done ?_
                          refine X.seq_normal ?_
                          refine T.trim (AllF.cons (t := 5) rfl (AllF.cons (t := 11) rfl (AllF.cons (t := 12) rfl AllF.nil))) ?_
                          refine T.seq ?_
                          obtain ⟨⟨r144, r145⟩, e146, H⟩ := bd_some H
                          refine T.regionL (ll := [0, 1, 2, 3, 4, 5, 6, 7, 8]) rfl ?_
                          refine TO.loadA rfl rfl rfl rfl TWLFlowWays.a24 (List.Mem.tail _ (List.Mem.head _)) rfl ?_
                          refine TO.move rfl rfl rfl rfl ?_
                          refine TO.move rfl rfl rfl rfl ?_
                          refine TO.callX TWLFlowWays.c34 rfl rfl rfl rfl (fun wc hwc => w_flow_Room (n0 := r3) (f1 := (r14.set (0 : Int).toNat (((r3.Arcs.getD (0 : Int).toNat default).cap) + 1))) (l2 := r28) wc (hwc.rs (f := arcC) (s := 3) (xs := r3.Arcs) (j := j8) (fun _ => rfl) (List.Mem.tail _ (List.Mem.tail _ (List.Mem.head _))) hn9 hc10 hz12) (hwc.rs (f := (intC .i64)) (s := 1) (xs := (r14.set (0 : Int).toNat (((r3.Arcs.getD (0 : Int).toNat default).cap) + 1))) (j := j19) (fun _ => rfl) (List.Mem.head _) (List.length_set.trans hn20) hc21 hz23) (hwc.rs (f := hopC) (s := 2) (xs := r28) (j := j34) (fun _ => rfl) (List.Mem.tail _ (List.Mem.tail _ (List.Mem.tail _ (List.Mem.head _)))) hn35 hc36 hz38) e146) ?_
                          rintro _ _ ⟨rfl, rfl⟩
                          refine TO.move rfl rfl rfl rfl ?_
                          refine TO.extract rfl rfl rfl rfl rfl ?_
                          refine TO.extract rfl rfl rfl rfl rfl ?_
                          refine TO.assign rfl rfl rfl rfl ?_
                          refine TO.assign rfl rfl rfl rfl ?_
                          refine TO.done ?_
                          refine X.seq_normal ?_
                          refine T.trim (AllF.cons (t := 5) rfl (AllF.cons (t := 11) rfl (AllF.cons (t := 12) rfl (AllF.cons (t := 24) rfl AllF.nil)))) ?_
                          refine T.seq ?_
                          obtain ⟨⟨r147, r148⟩, e149, H⟩ := bd_some H
                          refine T.regionL (ll := [0, 1, 2, 3, 4, 5, 6, 7, 8]) rfl ?_
                          refine TO.loadA rfl rfl rfl rfl TWLFlowWays.a24 (List.Mem.tail _ (List.Mem.head _)) rfl ?_
                          refine TO.move rfl rfl rfl rfl ?_
                          refine TO.move rfl rfl rfl rfl ?_
                          refine TO.callX TWLFlowWays.c35 rfl rfl rfl rfl (fun wc hwc => w_flow_Send (n0 := r3) (f1 := (r14.set (0 : Int).toNat (((r3.Arcs.getD (0 : Int).toNat default).cap) + 1))) (l2 := r28) (d3 := 0) wc (hwc.rs (f := arcC) (s := 3) (xs := r3.Arcs) (j := j8) (fun _ => rfl) (List.Mem.tail _ (List.Mem.tail _ (List.Mem.head _))) hn9 hc10 hz12) (hwc.rs (f := (intC .i64)) (s := 1) (xs := (r14.set (0 : Int).toNat (((r3.Arcs.getD (0 : Int).toNat default).cap) + 1))) (j := j19) (fun _ => rfl) (List.Mem.head _) (List.length_set.trans hn20) hc21 hz23) (hwc.rs (f := hopC) (s := 2) (xs := r28) (j := j34) (fun _ => rfl) (List.Mem.tail _ (List.Mem.tail _ (List.Mem.tail _ (List.Mem.head _)))) hn35 hc36 hz38) e149) ?_
                          rintro _ _ ⟨ob150, n151, c152, j153, rfl, rfl, hn154, hc155, hj156, hz157⟩
                          refine TO.move rfl rfl rfl rfl ?_
                          refine TO.extract rfl rfl rfl rfl rfl ?_
                          refine TO.extract rfl rfl rfl rfl rfl ?_
                          refine TO.assign rfl rfl rfl rfl ?_
                          refine TO.assign rfl rfl rfl rfl ?_
                          refine TO.done ?_
                          refine X.seq_normal ?_
                          refine T.trim (AllF.cons (t := 5) rfl (AllF.cons (t := 11) rfl (AllF.cons (t := 24) rfl (AllF.cons (t := 26) rfl AllF.nil)))) ?_
                          refine T.seq ?_
                          rcases ite_some H with ⟨g159, H⟩ | ⟨g159, H⟩
                          ·
                            rcases ite_some H with ⟨g160, H⟩ | ⟨g160, H⟩
                            ·
                              obtain ⟨r161, e162, H⟩ := bd_some H
                              rcases ite_some H with ⟨g163, H⟩ | ⟨g163, H⟩
                              ·
                                obtain ⟨r164, e165, H⟩ := bd_some H
                                refine T.regionL (ll := [0, 1, 2, 3, 4, 5, 6, 7, 8, 9, 10, 11, 12, 13, 14, 15]) rfl ?_
                                refine TO.move rfl rfl rfl rfl ?_
                                refine TO.bin rfl rfl rfl rfl rfl rfl ?_
                                refine TO.move rfl rfl rfl rfl ?_
                                refine TO.decB (t := 180) (b' := true) rfl (decide_eq_true g159) ?_
                                refine TO.move rfl rfl rfl rfl ?_
                                refine TO.bin rfl rfl rfl rfl rfl rfl ?_
                                refine TO.pickT rfl rfl rfl rfl rfl ?_
                                refine TO.move rfl rfl rfl rfl ?_
                                refine TO.decB (t := 184) (b' := true) rfl (decide_eq_true g160) ?_
                                refine TO.loadA rfl rfl rfl rfl TWLFlowWays.a24 (List.Mem.tail _ (List.Mem.tail _ (List.Mem.head _))) rfl ?_
                                refine TO.move rfl rfl rfl rfl ?_
                                refine TO.callX TWLFlowWays.c30 rfl rfl rfl rfl (fun wc hwc => w_flow_Pre (n0 := r3) (f1 := (r14.set (0 : Int).toNat (((r3.Arcs.getD (0 : Int).toNat default).cap) + 1))) wc (hwc.rs (f := arcC) (s := 3) (xs := r3.Arcs) (j := j8) (fun _ => rfl) (List.Mem.tail _ (List.Mem.tail _ (List.Mem.tail _ (List.Mem.head _)))) hn9 hc10 hz12) (hwc.rs (f := (intC .i64)) (s := 1) (xs := (r14.set (0 : Int).toNat (((r3.Arcs.getD (0 : Int).toNat default).cap) + 1))) (j := j19) (fun _ => rfl) (List.Mem.tail _ (List.Mem.head _)) (List.length_set.trans hn20) hc21 hz23) e162) ?_
                                rintro _ _ ⟨rfl, rfl⟩
                                refine TO.not rfl rfl rfl rfl ?_
                                refine TO.pickT rfl rfl rfl rfl rfl ?_
                                refine TO.move rfl rfl rfl rfl ?_
                                refine TO.decB (t := 190) (b' := true) rfl g163 ?_
                                refine TO.callX TWLFlowWays.c32 rfl rfl rfl rfl (fun wc hwc => w_acequialaw03_awake  wc  e165) ?_
                                rintro _ _ ⟨rfl, rfl⟩
                                refine TO.pickT rfl rfl rfl rfl rfl ?_
                                refine TO.assign rfl rfl rfl rfl ?_
                                refine TO.done ?_
                                refine X.seq_normal ?_
                                refine T.trim (AllF.cons (t := 10) rfl AllF.nil) ?_
                                refine T.ret ?_
                                obtain rfl := ret1 H
                                exact X.ret1 rfl rfl rfl rfl (Res.tmp rfl) Pick.nil ⟨rfl, rfl⟩
                              ·
                                refine T.regionL (ll := [0, 1, 2, 3, 4, 5, 6, 7, 8, 9, 10, 11, 12, 13, 14, 15]) rfl ?_
                                refine TO.move rfl rfl rfl rfl ?_
                                refine TO.bin rfl rfl rfl rfl rfl rfl ?_
                                refine TO.move rfl rfl rfl rfl ?_
                                refine TO.decB (t := 180) (b' := true) rfl (decide_eq_true g159) ?_
                                refine TO.move rfl rfl rfl rfl ?_
                                refine TO.bin rfl rfl rfl rfl rfl rfl ?_
                                refine TO.pickT rfl rfl rfl rfl rfl ?_
                                refine TO.move rfl rfl rfl rfl ?_
                                refine TO.decB (t := 184) (b' := true) rfl (decide_eq_true g160) ?_
                                refine TO.loadA rfl rfl rfl rfl TWLFlowWays.a24 (List.Mem.tail _ (List.Mem.tail _ (List.Mem.head _))) rfl ?_
                                refine TO.move rfl rfl rfl rfl ?_
                                refine TO.callX TWLFlowWays.c30 rfl rfl rfl rfl (fun wc hwc => w_flow_Pre (n0 := r3) (f1 := (r14.set (0 : Int).toNat (((r3.Arcs.getD (0 : Int).toNat default).cap) + 1))) wc (hwc.rs (f := arcC) (s := 3) (xs := r3.Arcs) (j := j8) (fun _ => rfl) (List.Mem.tail _ (List.Mem.tail _ (List.Mem.tail _ (List.Mem.head _)))) hn9 hc10 hz12) (hwc.rs (f := (intC .i64)) (s := 1) (xs := (r14.set (0 : Int).toNat (((r3.Arcs.getD (0 : Int).toNat default).cap) + 1))) (j := j19) (fun _ => rfl) (List.Mem.tail _ (List.Mem.head _)) (List.length_set.trans hn20) hc21 hz23) e162) ?_
                                rintro _ _ ⟨rfl, rfl⟩
                                refine TO.not rfl rfl rfl rfl ?_
                                refine TO.pickT rfl rfl rfl rfl rfl ?_
                                refine TO.move rfl rfl rfl rfl ?_
                                refine TO.decB (t := 190) (b' := false) rfl (Bool.eq_false_iff.2 g163) ?_
                                refine TO.shut rfl rfl rfl rfl ?_
                                refine TO.pickF rfl rfl rfl rfl rfl ?_
                                refine TO.assign rfl rfl rfl rfl ?_
                                refine TO.done ?_
                                refine X.seq_normal ?_
                                refine T.trim (AllF.cons (t := 10) rfl AllF.nil) ?_
                                refine T.ret ?_
                                obtain rfl := ret1 H
                                exact X.ret1 rfl rfl rfl rfl (Res.tmp rfl) Pick.nil ⟨rfl, rfl⟩
                            ·
                              refine T.regionL (ll := [0, 1, 2, 3, 4, 5, 6, 7, 8, 9, 10, 11, 12, 13, 14, 15]) rfl ?_
                              refine TO.move rfl rfl rfl rfl ?_
                              refine TO.bin rfl rfl rfl rfl rfl rfl ?_
                              refine TO.move rfl rfl rfl rfl ?_
                              refine TO.decB (t := 180) (b' := true) rfl (decide_eq_true g159) ?_
                              refine TO.move rfl rfl rfl rfl ?_
                              refine TO.bin rfl rfl rfl rfl rfl rfl ?_
                              refine TO.pickT rfl rfl rfl rfl rfl ?_
                              refine TO.move rfl rfl rfl rfl ?_
                              refine TO.decB (t := 184) (b' := false) rfl (decide_eq_false g160) ?_
                              refine TO.shut rfl rfl rfl rfl ?_
                              refine TO.shut rfl rfl rfl rfl ?_
                              refine TO.shut rfl rfl rfl rfl ?_
                              refine TO.shut rfl rfl rfl rfl ?_
                              refine TO.pickF rfl rfl rfl rfl rfl ?_
                              refine TO.move rfl rfl rfl rfl ?_
                              refine TO.shut rfl rfl rfl rfl ?_
                              refine TO.pickF rfl rfl rfl rfl rfl ?_
                              refine TO.assign rfl rfl rfl rfl ?_
                              refine TO.done ?_
                              refine X.seq_normal ?_
                              refine T.trim (AllF.cons (t := 10) rfl AllF.nil) ?_
                              refine T.ret ?_
                              obtain rfl := ret1 H
                              exact X.ret1 rfl rfl rfl rfl (Res.tmp rfl) Pick.nil ⟨rfl, rfl⟩
                          ·
                            refine T.regionL (ll := [0, 1, 2, 3, 4, 5, 6, 7, 8, 9, 10, 11, 12, 13, 14, 15]) rfl ?_
                            refine TO.move rfl rfl rfl rfl ?_
                            refine TO.bin rfl rfl rfl rfl rfl rfl ?_
                            refine TO.move rfl rfl rfl rfl ?_
                            refine TO.decB (t := 180) (b' := false) rfl (decide_eq_false g159) ?_
                            refine TO.shut rfl rfl rfl rfl ?_
                            refine TO.shut rfl rfl rfl rfl ?_
                            refine TO.pickF rfl rfl rfl rfl rfl ?_
                            refine TO.move rfl rfl rfl rfl ?_
                            refine TO.shut rfl rfl rfl rfl ?_
                            refine TO.shut rfl rfl rfl rfl ?_
                            refine TO.shut rfl rfl rfl rfl ?_
                            refine TO.shut rfl rfl rfl rfl ?_
                            refine TO.pickF rfl rfl rfl rfl rfl ?_
                            refine TO.move rfl rfl rfl rfl ?_
                            refine TO.shut rfl rfl rfl rfl ?_
                            refine TO.pickF rfl rfl rfl rfl rfl ?_
                            refine TO.assign rfl rfl rfl rfl ?_
                            refine TO.done ?_
                            refine X.seq_normal ?_
                            refine T.trim (AllF.cons (t := 10) rfl AllF.nil) ?_
                            refine T.ret ?_
                            obtain rfl := ret1 H
                            exact X.ret1 rfl rfl rfl rfl (Res.tmp rfl) Pick.nil ⟨rfl, rfl⟩
                    ·
                      refine T.regionL (ll := [0, 1, 2, 3, 4, 5, 6, 7, 8, 9, 10, 11]) rfl ?_
                      refine TO.move rfl rfl rfl rfl ?_
                      refine TO.bin rfl rfl rfl rfl rfl rfl ?_
                      refine TO.move rfl rfl rfl rfl ?_
                      refine TO.neb rfl rfl rfl rfl rfl TWLFlowWays.u4 ?_
                      refine TO.move rfl rfl rfl rfl ?_
                      refine TO.decB (t := 144) (b' := false) rfl (Bool.eq_false_iff.2 g135) ?_
                      refine TO.move rfl rfl rfl rfl ?_
                      refine TO.not rfl rfl rfl rfl ?_
                      refine TO.move rfl rfl rfl rfl ?_
                      refine TO.decB (t := 147) (b' := false) rfl (Bool.eq_false_iff.2 g136) ?_
                      refine TO.shut rfl rfl rfl rfl ?_
                      refine TO.shut rfl rfl rfl rfl ?_
                      refine TO.pickF rfl rfl rfl rfl rfl ?_
                      refine TO.pickF rfl rfl rfl rfl rfl ?_
                      refine TO.done ?_
                      refine X.seq_normal ?_
                      refine T.trim (AllF.cons (t := 5) rfl (AllF.cons (t := 11) rfl (AllF.cons (t := 12) rfl (AllF.cons (t := 151) rfl AllF.nil)))) ?_
                      refine T.condF rfl rfl ?_
                      refine T.skip ?_
                      refine X.seq_normal ?_
                      refine T.seq ?_
                      refine T.seq ?_
                      refine T.regionL (ll := [0, 1, 2]) rfl ?_
                      refine TO.move rfl rfl rfl rfl ?_
                      refine TO.lenX (xs := r14) hn20 rfl rfl rfl rfl rfl TWLFlowWays.l25 ?_
                      refine TO.bin rfl rfl rfl rfl rfl rfl ?_
                      refine TO.done ?_
                      refine X.seq_normal ?_
                      rcases ite_some H with ⟨g166, H⟩ | ⟨g166, H⟩
                      ·
                        refine T.condPT rfl g166 ?_
                        refine T.seq ?_
                        obtain ⟨r167, e168, H⟩ := bd_some H
                        refine T.regionL (ll := [0, 1]) rfl ?_
                        refine TO.callX TWLFlowWays.c32 rfl rfl rfl rfl (fun wc hwc => w_acequialaw03_awake  wc  e168) ?_
                        rintro _ _ ⟨rfl, rfl⟩
                        refine TO.assign rfl rfl rfl rfl ?_
                        refine TO.done ?_
                        refine X.seq_normal ?_
                        refine T.trim (AllF.cons (t := 10) rfl AllF.nil) ?_
                        refine T.ret ?_
                        refine X.then_ret ?_
                        obtain rfl := ret1 H
                        exact X.ret1 rfl rfl rfl rfl (Res.tmp rfl) Pick.nil ⟨rfl, rfl⟩
                      ·
                        refine T.condPF rfl g166 ?_
                        refine T.skip ?_
                        refine X.seq_normal ?_
                        refine T.seq ?_
                        obtain ⟨g169, H⟩ := gd_some H
                        obtain ⟨g170, H⟩ := gd_some H
                        obtain ⟨g171, H⟩ := gd_some H
                        refine T.regionL (ll := [0, 1, 2, 3, 4, 5, 6, 7, 8]) rfl ?_
                        refine TO.move rfl rfl rfl rfl ?_
                        refine TO.fieldAddr0 rfl rfl rfl rfl TWLFlowWays.f24_3 ?_
                        refine TO.load1 rfl rfl rfl rfl TWLFlowWays.s22 (List.Mem.head _) rfl ?_
                        refine TO.ixV hz12 hc10 hn9 g169 rfl rfl rfl rfl rfl TWLFlowWays.l22 TWLFlowWays.n28 ?_
                        refine TO.faR rfl rfl rfl rfl TWLFlowWays.f28_2 ?_
                        refine TO.ldFV (f := arcC) (v := .int .i64 ((r3.Arcs.getD (0 : Int).toNat default).cap)) default (fun _ => rfl) hz12 hc10 hn9 g169 rfl rfl rfl rfl rfl TWLFlowWays.s2 (List.Mem.tail _ (List.Mem.head _)) ?_
                        refine TO.addG g170 rfl rfl rfl rfl rfl ?_
                        refine TO.ixV hz23 hc21 hn20 g171 rfl rfl rfl rfl rfl TWLFlowWays.l25 TWLFlowWays.n2 ?_
                        refine TO.stIV hz23 hc21 hn20 g171 rfl rfl rfl rfl (Take.tail (Take.tail (Take.head _ _))) TWLFlowWays.n2 ?_
                        refine TO.done ?_
                        refine X.seq_normal ?_
                        refine T.trim (AllF.cons (t := 5) rfl (AllF.cons (t := 11) rfl (AllF.cons (t := 12) rfl AllF.nil))) ?_
                        refine T.seq ?_
                        obtain ⟨⟨r172, r173⟩, e174, H⟩ := bd_some H
                        refine T.regionL (ll := [0, 1, 2, 3, 4, 5, 6, 7, 8]) rfl ?_
                        refine TO.loadA rfl rfl rfl rfl TWLFlowWays.a24 (List.Mem.tail _ (List.Mem.head _)) rfl ?_
                        refine TO.move rfl rfl rfl rfl ?_
                        refine TO.move rfl rfl rfl rfl ?_
                        refine TO.callX TWLFlowWays.c34 rfl rfl rfl rfl (fun wc hwc => w_flow_Room (n0 := r3) (f1 := (r14.set (0 : Int).toNat (((r3.Arcs.getD (0 : Int).toNat default).cap) + 1))) (l2 := r28) wc (hwc.rs (f := arcC) (s := 3) (xs := r3.Arcs) (j := j8) (fun _ => rfl) (List.Mem.tail _ (List.Mem.tail _ (List.Mem.head _))) hn9 hc10 hz12) (hwc.rs (f := (intC .i64)) (s := 1) (xs := (r14.set (0 : Int).toNat (((r3.Arcs.getD (0 : Int).toNat default).cap) + 1))) (j := j19) (fun _ => rfl) (List.Mem.head _) (List.length_set.trans hn20) hc21 hz23) (hwc.rs (f := hopC) (s := 2) (xs := r28) (j := j34) (fun _ => rfl) (List.Mem.tail _ (List.Mem.tail _ (List.Mem.tail _ (List.Mem.head _)))) hn35 hc36 hz38) e174) ?_
                        rintro _ _ ⟨rfl, rfl⟩
                        refine TO.move rfl rfl rfl rfl ?_
                        refine TO.extract rfl rfl rfl rfl rfl ?_
                        refine TO.extract rfl rfl rfl rfl rfl ?_
                        refine TO.assign rfl rfl rfl rfl ?_
                        refine TO.assign rfl rfl rfl rfl ?_
                        refine TO.done ?_
                        refine X.seq_normal ?_
                        refine T.trim (AllF.cons (t := 5) rfl (AllF.cons (t := 11) rfl (AllF.cons (t := 12) rfl (AllF.cons (t := 24) rfl AllF.nil)))) ?_
                        refine T.seq ?_
                        obtain ⟨⟨r175, r176⟩, e177, H⟩ := bd_some H
                        refine T.regionL (ll := [0, 1, 2, 3, 4, 5, 6, 7, 8]) rfl ?_
                        refine TO.loadA rfl rfl rfl rfl TWLFlowWays.a24 (List.Mem.tail _ (List.Mem.head _)) rfl ?_
                        refine TO.move rfl rfl rfl rfl ?_
                        refine TO.move rfl rfl rfl rfl ?_
                        refine TO.callX TWLFlowWays.c35 rfl rfl rfl rfl (fun wc hwc => w_flow_Send (n0 := r3) (f1 := (r14.set (0 : Int).toNat (((r3.Arcs.getD (0 : Int).toNat default).cap) + 1))) (l2 := r28) (d3 := 0) wc (hwc.rs (f := arcC) (s := 3) (xs := r3.Arcs) (j := j8) (fun _ => rfl) (List.Mem.tail _ (List.Mem.tail _ (List.Mem.head _))) hn9 hc10 hz12) (hwc.rs (f := (intC .i64)) (s := 1) (xs := (r14.set (0 : Int).toNat (((r3.Arcs.getD (0 : Int).toNat default).cap) + 1))) (j := j19) (fun _ => rfl) (List.Mem.head _) (List.length_set.trans hn20) hc21 hz23) (hwc.rs (f := hopC) (s := 2) (xs := r28) (j := j34) (fun _ => rfl) (List.Mem.tail _ (List.Mem.tail _ (List.Mem.tail _ (List.Mem.head _)))) hn35 hc36 hz38) e177) ?_
                        rintro _ _ ⟨ob178, n179, c180, j181, rfl, rfl, hn182, hc183, hj184, hz185⟩
                        refine TO.move rfl rfl rfl rfl ?_
                        refine TO.extract rfl rfl rfl rfl rfl ?_
                        refine TO.extract rfl rfl rfl rfl rfl ?_
                        refine TO.assign rfl rfl rfl rfl ?_
                        refine TO.assign rfl rfl rfl rfl ?_
                        refine TO.done ?_
                        refine X.seq_normal ?_
                        refine T.trim (AllF.cons (t := 5) rfl (AllF.cons (t := 11) rfl (AllF.cons (t := 24) rfl (AllF.cons (t := 26) rfl AllF.nil)))) ?_
                        refine T.seq ?_
                        rcases ite_some H with ⟨g187, H⟩ | ⟨g187, H⟩
                        ·
                          rcases ite_some H with ⟨g188, H⟩ | ⟨g188, H⟩
                          ·
                            obtain ⟨r189, e190, H⟩ := bd_some H
                            rcases ite_some H with ⟨g191, H⟩ | ⟨g191, H⟩
                            ·
                              obtain ⟨r192, e193, H⟩ := bd_some H
                              refine T.regionL (ll := [0, 1, 2, 3, 4, 5, 6, 7, 8, 9, 10, 11, 12, 13, 14, 15]) rfl ?_
                              refine TO.move rfl rfl rfl rfl ?_
                              refine TO.bin rfl rfl rfl rfl rfl rfl ?_
                              refine TO.move rfl rfl rfl rfl ?_
                              refine TO.decB (t := 180) (b' := true) rfl (decide_eq_true g187) ?_
                              refine TO.move rfl rfl rfl rfl ?_
                              refine TO.bin rfl rfl rfl rfl rfl rfl ?_
                              refine TO.pickT rfl rfl rfl rfl rfl ?_
                              refine TO.move rfl rfl rfl rfl ?_
                              refine TO.decB (t := 184) (b' := true) rfl (decide_eq_true g188) ?_
                              refine TO.loadA rfl rfl rfl rfl TWLFlowWays.a24 (List.Mem.tail _ (List.Mem.tail _ (List.Mem.head _))) rfl ?_
                              refine TO.move rfl rfl rfl rfl ?_
                              refine TO.callX TWLFlowWays.c30 rfl rfl rfl rfl (fun wc hwc => w_flow_Pre (n0 := r3) (f1 := (r14.set (0 : Int).toNat (((r3.Arcs.getD (0 : Int).toNat default).cap) + 1))) wc (hwc.rs (f := arcC) (s := 3) (xs := r3.Arcs) (j := j8) (fun _ => rfl) (List.Mem.tail _ (List.Mem.tail _ (List.Mem.tail _ (List.Mem.head _)))) hn9 hc10 hz12) (hwc.rs (f := (intC .i64)) (s := 1) (xs := (r14.set (0 : Int).toNat (((r3.Arcs.getD (0 : Int).toNat default).cap) + 1))) (j := j19) (fun _ => rfl) (List.Mem.tail _ (List.Mem.head _)) (List.length_set.trans hn20) hc21 hz23) e190) ?_
                              rintro _ _ ⟨rfl, rfl⟩
                              refine TO.not rfl rfl rfl rfl ?_
                              refine TO.pickT rfl rfl rfl rfl rfl ?_
                              refine TO.move rfl rfl rfl rfl ?_
                              refine TO.decB (t := 190) (b' := true) rfl g191 ?_
                              refine TO.callX TWLFlowWays.c32 rfl rfl rfl rfl (fun wc hwc => w_acequialaw03_awake  wc  e193) ?_
                              rintro _ _ ⟨rfl, rfl⟩
                              refine TO.pickT rfl rfl rfl rfl rfl ?_
                              refine TO.assign rfl rfl rfl rfl ?_
                              refine TO.done ?_
                              refine X.seq_normal ?_
                              refine T.trim (AllF.cons (t := 10) rfl AllF.nil) ?_
                              refine T.ret ?_
                              obtain rfl := ret1 H
                              exact X.ret1 rfl rfl rfl rfl (Res.tmp rfl) Pick.nil ⟨rfl, rfl⟩
                            ·
                              refine T.regionL (ll := [0, 1, 2, 3, 4, 5, 6, 7, 8, 9, 10, 11, 12, 13, 14, 15]) rfl ?_
                              refine TO.move rfl rfl rfl rfl ?_
                              refine TO.bin rfl rfl rfl rfl rfl rfl ?_
                              refine TO.move rfl rfl rfl rfl ?_
                              refine TO.decB (t := 180) (b' := true) rfl (decide_eq_true g187) ?_
                              refine TO.move rfl rfl rfl rfl ?_
                              refine TO.bin rfl rfl rfl rfl rfl rfl ?_
                              refine TO.pickT rfl rfl rfl rfl rfl ?_
                              refine TO.move rfl rfl rfl rfl ?_
                              refine TO.decB (t := 184) (b' := true) rfl (decide_eq_true g188) ?_
                              refine TO.loadA rfl rfl rfl rfl TWLFlowWays.a24 (List.Mem.tail _ (List.Mem.tail _ (List.Mem.head _))) rfl ?_
                              refine TO.move rfl rfl rfl rfl ?_
                              refine TO.callX TWLFlowWays.c30 rfl rfl rfl rfl (fun wc hwc => w_flow_Pre (n0 := r3) (f1 := (r14.set (0 : Int).toNat (((r3.Arcs.getD (0 : Int).toNat default).cap) + 1))) wc (hwc.rs (f := arcC) (s := 3) (xs := r3.Arcs) (j := j8) (fun _ => rfl) (List.Mem.tail _ (List.Mem.tail _ (List.Mem.tail _ (List.Mem.head _)))) hn9 hc10 hz12) (hwc.rs (f := (intC .i64)) (s := 1) (xs := (r14.set (0 : Int).toNat (((r3.Arcs.getD (0 : Int).toNat default).cap) + 1))) (j := j19) (fun _ => rfl) (List.Mem.tail _ (List.Mem.head _)) (List.length_set.trans hn20) hc21 hz23) e190) ?_
                              rintro _ _ ⟨rfl, rfl⟩
                              refine TO.not rfl rfl rfl rfl ?_
                              refine TO.pickT rfl rfl rfl rfl rfl ?_
                              refine TO.move rfl rfl rfl rfl ?_
                              refine TO.decB (t := 190) (b' := false) rfl (Bool.eq_false_iff.2 g191) ?_
                              refine TO.shut rfl rfl rfl rfl ?_
                              refine TO.pickF rfl rfl rfl rfl rfl ?_
                              refine TO.assign rfl rfl rfl rfl ?_
                              refine TO.done ?_
                              refine X.seq_normal ?_
                              refine T.trim (AllF.cons (t := 10) rfl AllF.nil) ?_
                              refine T.ret ?_
                              obtain rfl := ret1 H
                              exact X.ret1 rfl rfl rfl rfl (Res.tmp rfl) Pick.nil ⟨rfl, rfl⟩
                          ·
                            refine T.regionL (ll := [0, 1, 2, 3, 4, 5, 6, 7, 8, 9, 10, 11, 12, 13, 14, 15]) rfl ?_
                            refine TO.move rfl rfl rfl rfl ?_
                            refine TO.bin rfl rfl rfl rfl rfl rfl ?_
                            refine TO.move rfl rfl rfl rfl ?_
                            refine TO.decB (t := 180) (b' := true) rfl (decide_eq_true g187) ?_
                            refine TO.move rfl rfl rfl rfl ?_
                            refine TO.bin rfl rfl rfl rfl rfl rfl ?_
                            refine TO.pickT rfl rfl rfl rfl rfl ?_
                            refine TO.move rfl rfl rfl rfl ?_
                            refine TO.decB (t := 184) (b' := false) rfl (decide_eq_false g188) ?_
                            refine TO.shut rfl rfl rfl rfl ?_
                            refine TO.shut rfl rfl rfl rfl ?_
                            refine TO.shut rfl rfl rfl rfl ?_
                            refine TO.shut rfl rfl rfl rfl ?_
                            refine TO.pickF rfl rfl rfl rfl rfl ?_
                            refine TO.move rfl rfl rfl rfl ?_
                            refine TO.shut rfl rfl rfl rfl ?_
                            refine TO.pickF rfl rfl rfl rfl rfl ?_
                            refine TO.assign rfl rfl rfl rfl ?_
                            refine TO.done ?_
                            refine X.seq_normal ?_
                            refine T.trim (AllF.cons (t := 10) rfl AllF.nil) ?_
                            refine T.ret ?_
                            obtain rfl := ret1 H
                            exact X.ret1 rfl rfl rfl rfl (Res.tmp rfl) Pick.nil ⟨rfl, rfl⟩
                        ·
                          refine T.regionL (ll := [0, 1, 2, 3, 4, 5, 6, 7, 8, 9, 10, 11, 12, 13, 14, 15]) rfl ?_
                          refine TO.move rfl rfl rfl rfl ?_
                          refine TO.bin rfl rfl rfl rfl rfl rfl ?_
                          refine TO.move rfl rfl rfl rfl ?_
                          refine TO.decB (t := 180) (b' := false) rfl (decide_eq_false g187) ?_
                          refine TO.shut rfl rfl rfl rfl ?_
                          refine TO.shut rfl rfl rfl rfl ?_
                          refine TO.pickF rfl rfl rfl rfl rfl ?_
                          refine TO.move rfl rfl rfl rfl ?_
                          refine TO.shut rfl rfl rfl rfl ?_
                          refine TO.shut rfl rfl rfl rfl ?_
                          refine TO.shut rfl rfl rfl rfl ?_
                          refine TO.shut rfl rfl rfl rfl ?_
                          refine TO.pickF rfl rfl rfl rfl rfl ?_
                          refine TO.move rfl rfl rfl rfl ?_
                          refine TO.shut rfl rfl rfl rfl ?_
                          refine TO.pickF rfl rfl rfl rfl rfl ?_
                          refine TO.assign rfl rfl rfl rfl ?_
                          refine TO.done ?_
                          refine X.seq_normal ?_
                          refine T.trim (AllF.cons (t := 10) rfl AllF.nil) ?_
                          refine T.ret ?_
                          obtain rfl := ret1 H
                          exact X.ret1 rfl rfl rfl rfl (Res.tmp rfl) Pick.nil ⟨rfl, rfl⟩
end Go.Proofs.Ytcdbemdogkmahaa.Ax
