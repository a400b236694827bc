/- Texts of this claim, one behind the other. -/
import Derived.Test.YtfdhelnfgfaeaaaA1
import Derived.Test.YtfdhelnfgfaeaaaA2
import Derived.Test.YtfdhelnfgfaeaaaA4
set_option linter.unusedVariables false
set_option linter.unusedSimpArgs false
namespace Go.Proofs.Ytfdhelnfgfaeaaa.Ax
open Go Go.Acq Go.RowKit Go.Proofs
set_option linter.unusedVariables false
set_option linter.unusedSimpArgs false
set_option maxHeartbeats 8000000
set_option maxRecDepth 20000
theorem Z0t : Zbo Try.prog 24 4 = true := by kernel_rfl
theorem Zc6 : Zbo Try.prog 35 3 = true := by kernel_rfl
theorem Z9e : Z6n Try.prog 2 = some 8 := by kernel_rfl
theorem Zcq : Z6n Try.prog 4 = some 1 := by kernel_rfl
theorem Zc5 : Z0z Try.prog 15 = true := by kernel_rfl
theorem Zc4 : Z0z Try.prog 16 = true := by kernel_rfl
theorem Zc3 : Z0z Try.prog 17 = true := by kernel_rfl
theorem Zc2 : Z0z Try.prog 18 = true := by kernel_rfl
theorem Z0w : Z0z Try.prog 19 = true := by kernel_rfl
theorem Zc1 : Z0z Try.prog 20 = true := by kernel_rfl
theorem Zax : Z20 Try.prog 24 1 = some 1 := by kernel_rfl
theorem Zaw : Z20 Try.prog 24 2 = some 2 := by kernel_rfl
theorem Z7r : Z20 Try.prog 24 3 = some 3 := by kernel_rfl
theorem Zav : Z20 Try.prog 35 0 = some 0 := by kernel_rfl
theorem Zau : Z20 Try.prog 35 1 = some 1 := by kernel_rfl
theorem Zat : Z20 Try.prog 35 2 = some 2 := by kernel_rfl
theorem Zcp : intT Try.prog 3 = some .i64 := by kernel_rfl
theorem Z8s : Z1x Try.prog 22 = some 35 := by kernel_rfl
theorem Z1a : Z1x Try.prog 26 = some 2 := by kernel_rfl
theorem Z1z : Z1x Try.prog 29 = some 4 := by kernel_rfl
theorem Z1h : Z21 Try.prog 2 = some 1 := by kernel_rfl
theorem Zc0 : Z21 Try.prog 24 = some 4 := by kernel_rfl
theorem Z8r : Z21 Try.prog 35 = some 3 := by kernel_rfl
theorem Z1q : Z21 Try.prog 4 = some 1 := by kernel_rfl
theorem Zco : (Try.prog.underlying 5).isSome = true := by kernel_rfl
theorem Z4w : Z33 Try.prog 2 = true := by kernel_rfl
theorem Z8q : Z33 Try.prog 22 = true := by kernel_rfl
theorem Z5q : Z33 Try.prog 3 = true := by kernel_rfl
theorem Z3x : Z4k Try.prog 2 = some (.int .i64 0) := by kernel_rfl
theorem Zbz : Z4k Try.prog 35 = some (.agg #[.int .i64 0, .int .i64 0, .int .i64 0]) := by kernel_rfl
theorem Z77 : Z4k Try.prog 4 = some (.bool false) := by kernel_rfl
theorem Z4e : ElemT Try.prog 26 2 1 8 (.int .i64 0) := ⟨Z1a, Z1h, Z9e, Z3x, rfl⟩
theorem Z5f : ElemT Try.prog 29 4 1 1 (.bool false) := ⟨Z1z, Z1q, Zcq, Z77, rfl⟩
theorem w_acequialaw24_CheckSpoilt {n0 : Net} {at1 : Int} {by2 : Int} {n0f3_b : Option Addr} {n0f3_n : Nat} {n0f3_c : Nat} (w : World) (h_n0f3 : RS w [] Z2k 3 n0f3_b n0f3_n n0f3_c n0.Arcs) {r0 : Bool} (H : Z3m n0 at1 by2 = some r0) : Fnc Try.prog 3 #[.agg #[.int .i64 n0.N, .int .i64 n0.S, .int .i64 n0.T, .slice n0f3_b n0f3_n n0f3_c], .int .u8 at1, .int .i64 by2] w [] (fun v N => v = .bool r0 ∧ N = []) := by
 unfold Z3m at H; refine Fnc.enter (vs := [.agg #[.int .i64 n0.N, .int .i64 n0.S, .int .i64 n0.T, .slice n0f3_b n0f3_n n0f3_c], .int .u8 at1, .int .i64 by2]) Try.func3 rfl rfl (Inv.refl w) ?_; refine Z0d ?_; refine Z04 (ll := [0, 1]) rfl ?_; refine Z2g rfl rfl rfl rfl ?_; intro b1; refine Z07 rfl rfl rfl rfl ?_; refine Z02 ?_; refine Z01 ?_; refine Z0d ?_; obtain ⟨r3, e4, H⟩ := Z0q H; refine Z04 (ll := [0, 1, 2]) rfl ?_; refine Z0m rfl rfl rfl rfl Z0t mm0 rfl ?_; refine Z0l Zc5 rfl rfl rfl rfl (fun wc hwc => Zcy (n0 := n0) (verts1 := 12) (arcs2 := 24) wc (h_n0f3.mono hwc) e4) ?_; rintro _ _ ⟨d1, n6, c7, j8, rfl, rfl, k7, e6, u9, e7⟩; refine Z1j rfl rfl rfl rfl tk1 Zc0 rfl rfl rfl ?_; refine Z02 ?_; refine Z01 ?_; refine Z0d ?_; obtain ⟨v3, H⟩ := Z0e H; obtain ⟨⟨a8, q4⟩, v4, H⟩ := Z0q H; apply Zb2 [⟨[], false, [], Z1m _⟩, ⟨[], false, [], Z1m _⟩, ⟨[1], false, [], Z1m _⟩, ⟨[2], false, [], Z1m _⟩, ⟨[3], false, [], fun _ v e => ∃ (q1 : Nat), v = .slice (some ⟨q1, 0, none⟩) ((r3.Arcs.length : Int).toNat) ((r3.Arcs.length : Int).toNat) ∧ e = [(some q1, .cells (arr (intC .i64) (List.replicate ((r3.Arcs.length : Int).toNat) (0 : Int)) ([])).toArray 2 (0, 0))]⟩, ⟨[0, 4], false, [4], fun _ v e => ∃ (a4 : Option Nat) (f0 : Nat) (h9 : Nat) (b7 : List Value), v = .tuple #[.slice (sb a4) f0 h9, .bool q4] ∧ e = [(a4, .cells (arr (intC .i64) a8 b7).toArray 2 (0, 0))] ∧ a8.length = f0 ∧ f0 ≤ h9 ∧ b7.length = (h9 - f0) * 1 ∧ (a4 = none → h9 = 0)⟩, ⟨[5], false, [], fun vl v e => v = (vl.getD 0 undef) ∧ e = []⟩, ⟨[5, 6], false, [], fun vl v e => v = (tupAt (vl.getD 1 undef) 0) ∧ e = []⟩, ⟨[5, 6], false, [], Z1m _⟩, ⟨[5, 6, 7], false, [], fun vl v e => v = (vl.getD 2 undef) ∧ e = []⟩] [21, 22, 23, 24, 25, 26, 20, 27, 28, 7] 10 (HRk [[]]) [[]] [] [(some b1, .cells #[.int .i64 r3.N, .int .i64 r3.S, .int .i64 r3.T, .slice (sb d1) n6 c7] 24 (0, 0)), (d1, .cells (arr Z2k r3.Arcs j8).toArray 35 (0, 0))]
 · exact Z4l
 · exact rfl
 · kernel_rfl
 · kernel_rfl
 · kernel_rfl
 · exact rfl
 · exact rfl
 · exact rfl
 · exact rfl
 · exact (by repeat (first | exact Z05 _ | exact Z08 | apply Pick.none | refine Z03 (by repeat (first | exact Take.head _ _ | apply Take.tail)) ?_))
 ·
  refine ⟨?_, ?_, ?_, ?_, ?_, ?_, ?_, ?_, ?_, ?_, trivial⟩
  · rintro vs es Es Hx -; refine Z0b (D := []) rfl ?_; refine Z0m rfl rfl rfl rfl Z0t mm0 rfl ?_; refine Z02 ?_; exact Z0u rfl ⟨rfl, rfl⟩ (Z05 _) rfl
  · rintro vs es Es Hx -; refine Z0b (D := []) rfl ?_; refine Z09 rfl rfl rfl rfl Z7r ?_; refine Z02 ?_; exact Z0u rfl ⟨rfl, rfl⟩ (Z05 _) rfl
  · rintro vs es Es Hx ⟨⟨i5, l8⟩, -⟩; refine Z0b (D := [(22, vs 1)]) rfl ?_; rw [i5]; refine Z0f rfl rfl rfl rfl Z8q mm0 rfl ?_; refine Z02 ?_; exact Z0u rfl ⟨rfl, rfl⟩ (Z05 _) (by show [(22, vs 1)] = _; rw [i5])
  · rintro vs es Es Hx ⟨⟨i1, l6⟩, -⟩; refine Z0b (D := [(23, vs 2)]) rfl ?_; rw [i1]; refine Z2w (xs := r3.Arcs) k7 rfl rfl rfl rfl rfl Z8s ?_; refine Z02 ?_; exact Z0u rfl ⟨rfl, rfl⟩ (Z05 _) (by show [(23, vs 2)] = _; rw [i1])
  · rintro vs es Es Hx ⟨⟨i9, n5⟩, -⟩; refine Z0b (D := [(24, vs 3)]) rfl ?_; rw [i9]; refine Zct v3 rfl rfl rfl rfl rfl Z1a Z1h Z3x Z9e rfl ?_; intro q1; refine Z02 ?_; exact Z0u rfl ⟨q1, rfl, rfl⟩ (by repeat (first | exact Z05 _ | exact Z08 | apply Pick.none | refine Z03 (by repeat (first | exact Take.head _ _ | apply Take.tail)) ?_)) (by show [(24, vs 3)] = _; rw [i9])
  · rintro vs es Es Hx ⟨⟨i2, l0⟩, ⟨q1, i6, l9⟩, -⟩; refine Z0b (D := [(21, vs 0), (25, vs 4)]) rfl ?_; rw [i2, i6]; refine Z16 (H := [(some b1, .cells #[.int .i64 r3.N, .int .i64 r3.S, .int .i64 r3.T, .slice (sb d1) n6 c7] 24 (0, 0)), (d1, .cells (arr Z2k r3.Arcs j8).toArray 35 (0, 0))] ++ ([(some q1, .cells (arr (intC .i64) (List.replicate ((r3.Arcs.length : Int).toNat) (0 : Int)) ([])).toArray 2 (0, 0))] ++ Hx)) (by show _ ++ ((es 0 ++ (es 4 ++ ([]))) ++ _) = _; rw [l0, l9]; rfl) ?_; refine Zf4 Zc4 rfl rfl rfl rfl (Z0r tk2 (Gone.refl _)) rfl (fun wc hwc => Za2 (n0 := r3) (f1 := (List.replicate ((r3.Arcs.length : Int).toNat) (0 : Int))) (most2 := 600) wc (hwc.self (Z03 tk2 Z08) rfl) (hwc.rsM (f := Z2k) (s := 3) (xs := r3.Arcs) (j := j8) (fun _ => rfl) (Z0r tk2 (Gone.refl _)) rfl mm1 k7 e6 e7) List.length_replicate (Nat.le_refl _) (Z3n _ _) Z1g v4) ?_; rintro _ _ ⟨a4, f0, h9, b7, rfl, rfl, d0, e2, n7, e3⟩; refine Z02 ?_; exact Z0u rfl ⟨a4, f0, h9, b7, rfl, rfl, d0, e2, n7, e3⟩ (by show Pick (_ ++ (_ ++ ((es 0 ++ ([])) ++ _))) _; rw [l0]; exact (by repeat (first | exact Z05 _ | exact Z08 | apply Pick.none | refine Z03 (by repeat (first | exact Take.head _ _ | apply Take.tail)) ?_))) (by show [(21, vs 0), (25, vs 4)] = _; rw [i2, i6])
  · rintro vs es Es Hx ⟨⟨a4, f0, h9, b7, c9, e8, d0, e2, n7, e3⟩, -⟩; refine Z0b (D := [(26, vs 5)]) rfl ?_; rw [c9]; refine Z16 (H := [(some b1, .cells #[.int .i64 r3.N, .int .i64 r3.S, .int .i64 r3.T, .slice (sb d1) n6 c7] 24 (0, 0)), (d1, .cells (arr Z2k r3.Arcs j8).toArray 35 (0, 0))] ++ ([(a4, .cells (arr (intC .i64) a8 b7).toArray 2 (0, 0))] ++ Hx)) (by show _ ++ ((es 5 ++ ([])) ++ _) = _; rw [e8]; rfl) ?_; refine Z06 rfl rfl rfl rfl ?_; refine Z02 ?_; exact Z0u rfl ⟨by show _ = vs 5; rw [c9] <;> rfl, rfl⟩ (by show Pick (_ ++ (_ ++ ((es 5 ++ ([])) ++ _))) _; rw [e8]; exact (by repeat (first | exact Z05 _ | exact Z08 | apply Pick.none | refine Z03 (by repeat (first | exact Take.head _ _ | apply Take.tail)) ?_))) (by show [(26, vs 5)] = _; rw [c9])
  ·
   rintro vs es Es Hx ⟨⟨a4, f0, h9, b7, c9, e8, d0, e2, n7, e3⟩, ⟨q0, j0⟩, -⟩; have h3 : vs 6 = .tuple #[.slice (sb a4) f0 h9, .bool q4] := by refine Eq.trans q0 ?_; show vs 5 = _; rw [c9] <;> rfl
   refine Z0b (D := [(26, vs 5), (20, vs 6)]) rfl ?_; rw [c9, h3]; refine Z16 (H := [(some b1, .cells #[.int .i64 r3.N, .int .i64 r3.S, .int .i64 r3.T, .slice (sb d1) n6 c7] 24 (0, 0)), (d1, .cells (arr Z2k r3.Arcs j8).toArray 35 (0, 0))] ++ ([(a4, .cells (arr (intC .i64) a8 b7).toArray 2 (0, 0))] ++ Hx)) (by show _ ++ ((es 5 ++ (es 6 ++ ([]))) ++ _) = _; rw [e8, j0]; rfl) ?_; refine TO.extract rfl rfl rfl rfl rfl ?_; refine Z02 ?_; exact Z0u rfl ⟨by show _ = (tupAt (vs 6) 0); rw [h3] <;> rfl, rfl⟩ (by show Pick (_ ++ (_ ++ ((es 5 ++ (es 6 ++ ([]))) ++ _))) _; rw [e8, j0]; exact (by repeat (first | exact Z05 _ | exact Z08 | apply Pick.none | refine Z03 (by repeat (first | exact Take.head _ _ | apply Take.tail)) ?_))) (by show [(26, vs 5), (20, vs 6)] = _; rw [c9, h3])
  ·
   rintro vs es Es Hx ⟨⟨a4, f0, h9, b7, c9, e8, d0, e2, n7, e3⟩, ⟨q0, j0⟩, -⟩; have h3 : vs 6 = .tuple #[.slice (sb a4) f0 h9, .bool q4] := by refine Eq.trans q0 ?_; show vs 5 = _; rw [c9] <;> rfl
   refine Z0b (D := [(26, vs 5), (20, vs 6)]) rfl ?_; rw [c9, h3]; refine Z16 (H := [(some b1, .cells #[.int .i64 r3.N, .int .i64 r3.S, .int .i64 r3.T, .slice (sb d1) n6 c7] 24 (0, 0)), (d1, .cells (arr Z2k r3.Arcs j8).toArray 35 (0, 0))] ++ ([(a4, .cells (arr (intC .i64) a8 b7).toArray 2 (0, 0))] ++ Hx)) (by show _ ++ ((es 5 ++ (es 6 ++ ([]))) ++ _) = _; rw [e8, j0]; rfl) ?_; refine TO.extract rfl rfl rfl rfl rfl ?_; refine Z02 ?_; exact Z0u rfl ⟨rfl, rfl⟩ (by show Pick (_ ++ (_ ++ ((es 5 ++ (es 6 ++ ([]))) ++ _))) _; rw [e8, j0]; exact (by repeat (first | exact Z05 _ | exact Z08 | apply Pick.none | refine Z03 (by repeat (first | exact Take.head _ _ | apply Take.tail)) ?_))) (by show [(26, vs 5), (20, vs 6)] = _; rw [c9, h3])
  ·
   rintro vs es Es Hx ⟨⟨a4, f0, h9, b7, c9, e8, d0, e2, n7, e3⟩, ⟨q0, j0⟩, ⟨r2, l7⟩, -⟩; have h3 : vs 6 = .tuple #[.slice (sb a4) f0 h9, .bool q4] := by refine Eq.trans q0 ?_; show vs 5 = _; rw [c9] <;> rfl
   have j1 : vs 7 = .slice (sb a4) f0 h9 := by refine Eq.trans r2 ?_; show (tupAt (vs 6) 0) = _; rw [h3] <;> rfl
   refine Z0b (D := [(26, vs 5), (20, vs 6), (27, vs 7)]) rfl ?_; rw [c9, h3, j1]; refine Z16 (H := [(some b1, .cells #[.int .i64 r3.N, .int .i64 r3.S, .int .i64 r3.T, .slice (sb d1) n6 c7] 24 (0, 0)), (d1, .cells (arr Z2k r3.Arcs j8).toArray 35 (0, 0))] ++ ([(a4, .cells (arr (intC .i64) a8 b7).toArray 2 (0, 0))] ++ Hx)) (by show _ ++ ((es 5 ++ (es 6 ++ (es 7 ++ ([])))) ++ _) = _; rw [e8, j0, l7]; rfl) ?_; refine Z07 rfl rfl rfl rfl ?_; refine Z02 ?_; exact Z0u rfl ⟨by show _ = vs 7; rw [j1] <;> rfl, rfl⟩ (by show Pick (_ ++ (_ ++ ((es 5 ++ (es 6 ++ (es 7 ++ ([])))) ++ _))) _; rw [e8, j0, l7]; exact (by repeat (first | exact Z05 _ | exact Z08 | apply Pick.none | refine Z03 (by repeat (first | exact Take.head _ _ | apply Take.tail)) ?_))) (by show [(26, vs 5), (20, vs 6), (27, vs 7)] = _; rw [c9, h3, j1])
 ·
  rintro vs es hb ⟨⟨i2, l0⟩, ⟨i5, l8⟩, ⟨i1, l6⟩, ⟨i9, n5⟩, ⟨q1, i6, l9⟩, ⟨a4, f0, h9, b7, c9, e8, d0, e2, n7, e3⟩, ⟨q0, j0⟩, ⟨r2, l7⟩, ⟨l1, n9⟩, ⟨t7, o0⟩, -⟩ hHR; obtain rfl : hb = [] := hHR; have h3 : vs 6 = .tuple #[.slice (sb a4) f0 h9, .bool q4] := by refine Eq.trans q0 ?_; show vs 5 = _; rw [c9] <;> rfl
  have j1 : vs 7 = .slice (sb a4) f0 h9 := by refine Eq.trans r2 ?_; show (tupAt (vs 6) 0) = _; rw [h3] <;> rfl
  have l3 : vs 9 = .slice (sb a4) f0 h9 := by refine Eq.trans t7 ?_; show vs 7 = _; rw [j1] <;> rfl
  refine Z0b (D := [(21, vs 0), (22, vs 1), (23, vs 2), (24, vs 3), (25, vs 4), (26, vs 5), (20, vs 6), (27, vs 7), (28, vs 8), (7, vs 9)]) rfl ?_; refine Z16 (H := [(some b1, .cells #[.int .i64 r3.N, .int .i64 r3.S, .int .i64 r3.T, .slice (sb d1) n6 c7] 24 (0, 0)), (d1, .cells (arr Z2k r3.Arcs j8).toArray 35 (0, 0)), (a4, .cells (arr (intC .i64) a8 b7).toArray 2 (0, 0))]) (by show _ ++ (_ ++ (es 0 ++ (es 1 ++ (es 2 ++ (es 3 ++ (es 5 ++ (es 6 ++ (es 7 ++ (es 8 ++ (es 9 ++ ([]))))))))))) = _; rw [l0, l8, l6, n5, e8, j0, l7, n9, o0]; rfl) ?_; rw [i2, i5, i1, i9, i6, c9, h3, j1, l1, l3]; clear l3 l1 j1 h3 c9 i6 i9 i1 i5 i2 q0 r2 t7 l0 l8 l6 n5 l9 e8 j0 l7 n9 o0; refine Z07 rfl rfl rfl rfl ?_; refine Z02 ?_; refine Z01 ?_; refine Z0k (Z00 (t := 1) rfl (Z00 (t := 2) rfl (Z00 (t := 3) rfl (Z00 (t := 7) rfl (Z00 (t := 8) rfl Z0a))))) ?_; refine Z0d ?_; refine Z0d ?_; refine Z04 (ll := [0, 1]) rfl ?_; refine Z06 rfl rfl rfl rfl ?_; refine TO.not rfl rfl rfl rfl ?_; refine Z02 ?_; refine Z01 ?_; rcases Z0h H with ⟨r6, H⟩ | ⟨r6, H⟩
  · refine Z1o rfl r6 ?_; refine Z0d ?_; refine Z04 (ll := [0]) rfl ?_; refine Z07 rfl rfl rfl rfl ?_; refine Z02 ?_; refine Z01 ?_; refine T.ret ?_; refine Z0g ?_; obtain rfl := ret1 H; exact Z14 rfl rfl rfl rfl (Res.tmp rfl) Z08 ⟨rfl, rfl⟩
  ·
   refine Z27 rfl (Bool.eq_false_iff.2 r6) ?_; refine T.skip ?_; refine Z01 ?_; refine Z0d ?_; obtain ⟨⟨a6, x3⟩, v5, H⟩ := Z0q H; refine Z04 (ll := [0, 1, 2, 3, 4, 5, 6, 7]) rfl ?_; refine Z0m rfl rfl rfl rfl Z0t mm0 rfl ?_; refine Z06 rfl rfl rfl rfl ?_; refine Z0l Zc3 rfl rfl rfl rfl (fun wc hwc => Zk4 (n0 := r3) (f1 := a8) wc (hwc.rs (f := Z2k) (s := 3) (xs := r3.Arcs) (j := j8) (fun _ => rfl) mm1 k7 e6 e7) (hwc.rs (f := (intC .i64)) (s := 1) (xs := a8) (j := b7) (fun _ => rfl) mm2 d0 e2 e3) v5) ?_; rintro _ _ ⟨a9, k6, o1, d6, rfl, rfl, e1, k8, q5, k9⟩; refine Z06 rfl rfl rfl rfl ?_; refine TO.extract rfl rfl rfl rfl rfl ?_; refine TO.extract rfl rfl rfl rfl rfl ?_; refine Z07 rfl rfl rfl rfl ?_; refine Z07 rfl rfl rfl rfl ?_; refine Z02 ?_; refine Z01 ?_; refine Z0k (Z00 (t := 1) rfl (Z00 (t := 2) rfl (Z00 (t := 3) rfl (Z00 (t := 7) rfl (Z00 (t := 9) rfl (Z00 (t := 10) rfl Z0a)))))) ?_; refine Z0d ?_; refine Z0d ?_; rcases Z0h H with ⟨r7, H⟩ | ⟨r7, H⟩
   · refine Z04 (ll := [0, 1, 2, 3, 4, 5, 6, 7, 8]) rfl ?_; refine Z06 rfl rfl rfl rfl ?_; refine Z0s rfl rfl rfl rfl rfl rfl ?_; refine Z06 rfl rfl rfl rfl ?_; refine Z0v (t := 39) (b' := true) rfl (decide_eq_true r7) ?_; refine Z0c rfl rfl rfl rfl ?_; refine Z0c rfl rfl rfl rfl ?_; refine Z0c rfl rfl rfl rfl ?_; refine Z0c rfl rfl rfl rfl ?_; refine Z0c rfl rfl rfl rfl ?_; refine Z0x rfl rfl rfl rfl rfl ?_; refine Z02 ?_; refine Z01 ?_; refine Z0k (Z00 (t := 1) rfl (Z00 (t := 2) rfl (Z00 (t := 3) rfl (Z00 (t := 7) rfl (Z00 (t := 9) rfl (Z00 (t := 45) rfl Z0a)))))) ?_; refine Z1o rfl rfl ?_; refine Z0d ?_; refine Z04 (ll := [0]) rfl ?_; refine Z07 rfl rfl rfl rfl ?_; refine Z02 ?_; refine Z01 ?_; refine T.ret ?_; refine Z0g ?_; obtain rfl := ret1 H; exact Z14 rfl rfl rfl rfl (Res.tmp rfl) Z08 ⟨rfl, rfl⟩
   ·
    obtain ⟨x4, v6, H⟩ := Z0q H; refine Z04 (ll := [0, 1, 2, 3, 4, 5, 6, 7, 8]) rfl ?_; refine Z06 rfl rfl rfl rfl ?_; refine Z0s rfl rfl rfl rfl rfl rfl ?_; refine Z06 rfl rfl rfl rfl ?_; refine Z0v (t := 39) (b' := false) rfl (decide_eq_false r7) ?_; refine Z0m rfl rfl rfl rfl Z0t mm1 rfl ?_; refine Z06 rfl rfl rfl rfl ?_; refine Z06 rfl rfl rfl rfl ?_; refine Z0l Zc2 rfl rfl rfl rfl (fun wc hwc => Z59 (n0 := r3) (f1 := a8) (s2 := a6) wc (hwc.rs (f := Z2k) (s := 3) (xs := r3.Arcs) (j := j8) (fun _ => rfl) mm2 k7 e6 e7) (hwc.rs (f := (intC .i64)) (s := 1) (xs := a8) (j := b7) (fun _ => rfl) mm3 d0 e2 e3) (hwc.rs (f := boolC) (s := 1) (xs := a6) (j := d6) (fun _ => rfl) mm0 e1 k8 k9) v6) ?_; rintro _ _ ⟨rfl, rfl⟩; refine TO.not rfl rfl rfl rfl ?_; refine Z10 rfl rfl rfl rfl rfl ?_; refine Z02 ?_; refine Z01 ?_; refine Z0k (Z00 (t := 1) rfl (Z00 (t := 2) rfl (Z00 (t := 3) rfl (Z00 (t := 7) rfl (Z00 (t := 9) rfl (Z00 (t := 45) rfl Z0a)))))) ?_; rcases Z0h H with ⟨r8, H⟩ | ⟨r8, H⟩
    · refine Z1o rfl r8 ?_; refine Z0d ?_; refine Z04 (ll := [0]) rfl ?_; refine Z07 rfl rfl rfl rfl ?_; refine Z02 ?_; refine Z01 ?_; refine T.ret ?_; refine Z0g ?_; obtain rfl := ret1 H; exact Z14 rfl rfl rfl rfl (Res.tmp rfl) Z08 ⟨rfl, rfl⟩
    ·
     refine Z27 rfl (Bool.eq_false_iff.2 r8) ?_; refine T.skip ?_; refine Z01 ?_; refine Z0d ?_; refine Z0d ?_; refine Z1y (fun (q6 : Bool) => Z1w at1 by2 r3 a8 a6 q6 = some r0) (fun (q6 : Bool) => [(1, .int .u8 at1), (2, .int .i64 by2), (3, .pointer (some ⟨b1, 0, none⟩)), (7, .slice (sb a4) f0 h9), (9, .slice (sb a9) k6 o1), (52, .bool q6)]) (fun (q6 : Bool) => [(some b1, .cells #[.int .i64 r3.N, .int .i64 r3.S, .int .i64 r3.T, .slice (sb d1) n6 c7] 24 (0, 0)), (d1, .cells (arr Z2k r3.Arcs j8).toArray 35 (0, 0)), (a4, .cells (arr (intC .i64) a8 b7).toArray 2 (0, 0)), (a9, .cells (arr boolC a6 d6).toArray 4 (0, 0))]) ?_ ?_
     ·
      rcases Z0h H with ⟨r9, H⟩ | ⟨r9, H⟩
      · refine Z04 (ll := [0, 1, 2, 3, 4, 5, 6]) rfl ?_; refine Z06 rfl rfl rfl rfl ?_; refine Z2w (xs := a8) d0 rfl rfl rfl rfl rfl Z1a ?_; refine Z0s rfl rfl rfl rfl rfl rfl ?_; refine Z06 rfl rfl rfl rfl ?_; refine Z0v (t := 49) (b' := true) rfl (decide_eq_true r9) ?_; refine Z06 rfl rfl rfl rfl ?_; refine Z0s rfl rfl rfl rfl rfl rfl ?_; refine Z0x rfl rfl rfl rfl rfl ?_; refine Z02 ?_; exact Z1u (decide (by2 ≠ 0)) H (Z00 rfl (Z00 rfl (Z00 rfl (Z00 rfl (Z00 rfl (Z00 rfl Z0a)))))) (Z03 tk1 (Z03 tk1 (Z03 tk1 (Z03 tk0 Z08))))
      · refine Z04 (ll := [0, 1, 2, 3, 4, 5, 6]) rfl ?_; refine Z06 rfl rfl rfl rfl ?_; refine Z2w (xs := a8) d0 rfl rfl rfl rfl rfl Z1a ?_; refine Z0s rfl rfl rfl rfl rfl rfl ?_; refine Z06 rfl rfl rfl rfl ?_; refine Z0v (t := 49) (b' := false) rfl (decide_eq_false r9) ?_; refine Z0c rfl rfl rfl rfl ?_; refine Z0c rfl rfl rfl rfl ?_; refine Z10 rfl rfl rfl rfl rfl ?_; refine Z02 ?_; exact Z1u false H (Z00 rfl (Z00 rfl (Z00 rfl (Z00 rfl (Z00 rfl (Z00 rfl Z0a)))))) (Z03 tk1 (Z03 tk1 (Z03 tk1 (Z03 tk0 Z08))))
     ·
      rintro q6 H; unfold Z1w at H; refine Z1y (fun (s5 : Unit) => Z19 r3 a8 a6 = some r0) (fun (s5 : Unit) => [(3, .pointer (some ⟨b1, 0, none⟩)), (7, .slice (sb a4) f0 h9), (9, .slice (sb a9) k6 o1)]) (fun (s5 : Unit) => [(some b1, .cells #[.int .i64 r3.N, .int .i64 r3.S, .int .i64 r3.T, .slice (sb d1) n6 c7] 24 (0, 0)), (d1, .cells (arr Z2k r3.Arcs j8).toArray 35 (0, 0)), (a4, .cells (arr (intC .i64) a8 b7).toArray 2 (0, 0)), (a9, .cells (arr boolC a6 d6).toArray 4 (0, 0))]) ?_ ?_
      ·
       rcases Z0h H with ⟨s6, H⟩ | ⟨s6, H⟩
       ·
        refine Z1o rfl s6 ?_; refine Z0d ?_; obtain ⟨t8, H⟩ := Z0e H; obtain ⟨v7, H⟩ := Z0e H; refine Z04 (ll := [0, 1, 2, 3, 4, 5]) rfl ?_; refine Z06 rfl rfl rfl rfl ?_; refine Zcv rfl rfl rfl rfl Zco Zcp (Z7b t8.1 t8.2) ?_; refine Z06 rfl rfl rfl rfl ?_; refine Z2w (xs := a8) d0 rfl rfl rfl rfl rfl Z1a ?_; refine TO.rem rfl rfl rfl rfl rfl v7 ?_; refine Z07 rfl rfl rfl rfl ?_; refine Z02 ?_; refine Z01 ?_; refine Z0d ?_; obtain ⟨v8, H⟩ := Z0e H; refine Z04 (ll := [0, 1, 2, 3]) rfl ?_; refine Z7u rfl rfl rfl Z1a Z1h ?_; intro v9; refine Z06 rfl rfl rfl rfl ?_; refine Zcw (f := (intC .i64)) (s := 1) (xs := ([] : List Int)) (ob := some v9) (j := ([])) (ys := a8) (fun _ => rfl) (fun _ => rfl) Z4e v8 rfl rfl rfl rfl rfl tk0 rfl (Nat.le_refl _) (Z3n 0 _) Z1g (fun wc hwc => (hwc.rs (f := (intC .i64)) (s := 1) (xs := a8) (j := b7) (fun _ => rfl) mm3 d0 e2 e3)) ?_; intro q7 w0 t9 m0 w1 m1; refine Z07 rfl rfl rfl rfl ?_; refine Z02 ?_; refine Z01 ?_; refine Z0k (Z00 (t := 2) rfl (Z00 (t := 3) rfl (Z00 (t := 7) rfl (Z00 (t := 9) rfl (Z00 (t := 11) rfl (Z00 (t := 12) rfl Z0a)))))) ?_; refine Z0d ?_; obtain ⟨u0, H⟩ := Z0e H; obtain ⟨u1, H⟩ := Z0e H; refine Z04 (ll := [0, 1, 2, 3, 4, 5, 6, 7]) rfl ?_; refine Z06 rfl rfl rfl rfl ?_; refine Z06 rfl rfl rfl rfl ?_; refine Z4j m1 m0 (Z3h d0) u0 rfl rfl rfl rfl rfl Z1a Z1h ?_; refine Z7a m1 m0 (Z3h d0) u0 rfl rfl rfl rfl Z4w mm0 ?_; refine Z06 rfl rfl rfl rfl ?_; refine TO.addB rfl rfl rfl rfl rfl ?_; refine Z4j m1 m0 (Z3h d0) u1 rfl rfl rfl rfl rfl Z1a Z1h ?_; refine Zac m1 m0 (Z3h d0) u1 rfl rfl rfl rfl tk0 Z1h ?_; refine Z02 ?_; refine Z01 ?_; refine Z0k (Z00 (t := 3) rfl (Z00 (t := 7) rfl (Z00 (t := 9) rfl (Z00 (t := 11) rfl (Z00 (t := 12) rfl Z0a))))) ?_; refine Z0d ?_; obtain ⟨u2, H⟩ := Z0e H; refine Z04 (ll := [0, 1, 2, 3, 4, 5, 6]) rfl ?_; refine Z09 rfl rfl rfl rfl Z7r ?_; refine Z0f rfl rfl rfl rfl Z8q mm1 rfl ?_; refine Z06 rfl rfl rfl rfl ?_; refine Z4j e7 e6 k7 u2 rfl rfl rfl rfl rfl Z8s Z8r ?_; refine TO.ldSV (f := Z2k) (cs := [.int .i64 ((r3.Arcs.getD (at1.tmod (a8.length : Int)).toNat default).fr), .int .i64 ((r3.Arcs.getD (at1.tmod (a8.length : Int)).toNat default).to), .int .i64 ((r3.Arcs.getD (at1.tmod (a8.length : Int)).toNat default).cap)]) default (fun _ => rfl) e7 e6 k7 u2 rfl rfl rfl rfl rfl Zc6 mm2 ?_; refine Z1r rfl rfl rfl Zbz ?_; intro u5; refine Z1j rfl rfl rfl rfl tk0 Z8r rfl rfl rfl ?_; refine Z02 ?_; refine Z01 ?_; refine Z0d ?_; refine Z1y (fun (i7 : Bool) => Z1v at1 by2 r3 a8 a6 i7 = some r0) (fun (i7 : Bool) => [(3, .pointer (some ⟨b1, 0, none⟩)), (7, .slice (sb a4) f0 h9), (9, .slice (sb a9) k6 o1), (12, .slice (sb q7) (0 + f0) w0), (13, .pointer (some ⟨u5, 0, none⟩)), (14, .bool i7)]) (fun (i7 : Bool) => [(some b1, .cells #[.int .i64 r3.N, .int .i64 r3.S, .int .i64 r3.T, .slice (sb d1) n6 c7] 24 (0, 0)), (d1, .cells (arr Z2k r3.Arcs j8).toArray 35 (0, 0)), (a4, .cells (arr (intC .i64) a8 b7).toArray 2 (0, 0)), (a9, .cells (arr boolC a6 d6).toArray 4 (0, 0)), (q7, .cells (arr (intC .i64) (a8.set (at1.tmod (a8.length : Int)).toNat (Zjv .i64 (a8.getD (at1.tmod (a8.length : Int)).toNat 0) by2)) t9).toArray 2 (0, 0)), (some u5, .cells #[.int .i64 ((r3.Arcs.getD (at1.tmod (a8.length : Int)).toNat default).fr), .int .i64 ((r3.Arcs.getD (at1.tmod (a8.length : Int)).toNat default).to), .int .i64 ((r3.Arcs.getD (at1.tmod (a8.length : Int)).toNat default).cap)] 35 (0, 0))]) ?_ ?_
        ·
         obtain ⟨r4, H⟩ := Z0e H; rcases Z0h H with ⟨s7, H⟩ | ⟨s7, H⟩
         · obtain ⟨u6, H⟩ := Z0e H; refine Z3z 12 [0, 1, 2, 3, 4, 5, 6, 7, 8, 9, 10, 11] rfl Z4l (by kernel_rfl) (by kernel_rfl) rfl (by kernel_rfl) ?_; refine TQ.move rfl rfl rfl rfl ?_; refine TQ.move rfl rfl rfl rfl ?_; refine Zdv m1 m0 (List.length_set.trans (Z3h d0)) r4 rfl rfl rfl rfl rfl Z1a Z1h ?_; refine Zb0 m1 m0 (List.length_set.trans (Z3h d0)) r4 rfl rfl rfl rfl Z4w mm1 ?_; refine Z7z rfl rfl rfl rfl rfl rfl ?_; refine TQ.move rfl rfl rfl rfl ?_; refine Z4h (t := 78) (b' := true) rfl (decide_eq_true s7) ?_; refine TQ.move rfl rfl rfl rfl ?_; refine TQ.move rfl rfl rfl rfl ?_; refine Zdv m1 m0 (List.length_set.trans (Z3h d0)) u6 rfl rfl rfl rfl rfl Z1a Z1h ?_; refine Zb0 m1 m0 (List.length_set.trans (Z3h d0)) u6 rfl rfl rfl rfl Z4w mm1 ?_; refine Z0i rfl rfl rfl rfl Zat ?_; refine Z2x rfl rfl rfl rfl Z4w mm0 rfl ?_; refine TQ.tail [12, 13, 14] rfl rfl ?_; refine Z0s rfl rfl rfl rfl rfl rfl ?_; refine Z0x rfl rfl rfl rfl rfl ?_; refine Z07 rfl rfl rfl rfl ?_; refine Z02 ?_; exact Z1u (decide (((a8.set (at1.tmod (a8.length : Int)).toNat (Zjv .i64 (a8.getD (at1.tmod (a8.length : Int)).toNat 0) by2)).getD (at1.tmod (a8.length : Int)).toNat 0) ≤ ((r3.Arcs.getD (at1.tmod (a8.length : Int)).toNat default).cap))) H (Z00 rfl (Z00 rfl (Z00 rfl (Z00 rfl (Z00 rfl (Z00 rfl Z0a)))))) (Z03 tk2 (Z03 tk2 (Z03 tk2 (Z03 tk2 (Z03 tk1 (Z03 tk0 Z08))))))
         · refine Z3z 12 [0, 1, 2, 3, 4, 5, 6, 7, 8, 9, 10, 11] rfl Z4l (by kernel_rfl) (by kernel_rfl) rfl (by kernel_rfl) ?_; refine TQ.move rfl rfl rfl rfl ?_; refine TQ.move rfl rfl rfl rfl ?_; refine Zdv m1 m0 (List.length_set.trans (Z3h d0)) r4 rfl rfl rfl rfl rfl Z1a Z1h ?_; refine Zb0 m1 m0 (List.length_set.trans (Z3h d0)) r4 rfl rfl rfl rfl Z4w mm1 ?_; refine Z7z rfl rfl rfl rfl rfl rfl ?_; refine TQ.move rfl rfl rfl rfl ?_; refine Z4h (t := 78) (b' := false) rfl (decide_eq_false s7) ?_; refine Z0y rfl rfl rfl rfl ?_; refine Z0y rfl rfl rfl rfl ?_; refine Z0y rfl rfl rfl rfl ?_; refine Z0y rfl rfl rfl rfl ?_; refine Z0y rfl rfl rfl rfl ?_; refine Z0y rfl rfl rfl rfl ?_; refine TQ.tail [12, 13, 14] rfl rfl ?_; refine Z0c rfl rfl rfl rfl ?_; refine Z10 rfl rfl rfl rfl rfl ?_; refine Z07 rfl rfl rfl rfl ?_; refine Z02 ?_; exact Z1u false H (Z00 rfl (Z00 rfl (Z00 rfl (Z00 rfl (Z00 rfl (Z00 rfl Z0a)))))) (Z03 tk2 (Z03 tk2 (Z03 tk2 (Z03 tk2 (Z03 tk1 (Z03 tk0 Z08))))))
        ·
         rintro i7 H; unfold Z1v at H; refine Z0d ?_; obtain ⟨x5, w2, H⟩ := Z0q H; refine Z04 (ll := [0, 1, 2, 3, 4]) rfl ?_; refine Z0m rfl rfl rfl rfl Z0t mm0 rfl ?_; refine Z06 rfl rfl rfl rfl ?_; refine Z06 rfl rfl rfl rfl ?_; refine Z0l Z0w rfl rfl rfl rfl (fun wc hwc => Z12 (n0 := r3) (f1 := (a8.set (at1.tmod (a8.length : Int)).toNat (Zjv .i64 (a8.getD (at1.tmod (a8.length : Int)).toNat 0) by2))) (s2 := a6) wc (hwc.rs (f := Z2k) (s := 3) (xs := r3.Arcs) (j := j8) (fun _ => rfl) mm1 k7 e6 e7) (hwc.rs (f := (intC .i64)) (s := 1) (xs := (a8.set (at1.tmod (a8.length : Int)).toNat (Zjv .i64 (a8.getD (at1.tmod (a8.length : Int)).toNat 0) by2))) (j := t9) (fun _ => rfl) mm4 (List.length_set.trans (Z3h d0)) m0 m1) (hwc.rs (f := boolC) (s := 1) (xs := a6) (j := d6) (fun _ => rfl) mm3 e1 k8 k9) w2) ?_; rintro _ _ ⟨rfl, rfl⟩; refine Z07 rfl rfl rfl rfl ?_; refine Z02 ?_; refine Z01 ?_; refine T.block ?_; refine Z0d ?_; refine Z04 (ll := [0, 1, 2]) rfl ?_; refine Z06 rfl rfl rfl rfl ?_; refine TO.not rfl rfl rfl rfl ?_; refine Z07 rfl rfl rfl rfl ?_; refine Z02 ?_; refine Z01 ?_; refine Z0k (Z00 (t := 3) rfl (Z00 (t := 7) rfl (Z00 (t := 9) rfl (Z00 (t := 13) rfl (Z00 (t := 15) rfl (Z00 (t := 91) rfl Z0a)))))) ?_; rcases Z0h H with ⟨s8, H⟩ | ⟨s8, H⟩
         ·
          refine Z1o rfl s8 ?_; refine Z0d ?_; refine Z04 (ll := [0, 1]) rfl ?_; refine Z06 rfl rfl rfl rfl ?_; refine Z0s rfl rfl rfl rfl rfl rfl ?_; refine Z02 ?_; refine Z01 ?_; rcases Z0h H with ⟨s9, H⟩ | ⟨s9, H⟩
          · refine Z1c rfl s9 ?_; refine Z0d ?_; refine Z04 (ll := [0]) rfl ?_; refine Z07 rfl rfl rfl rfl ?_; refine Z02 ?_; refine Z01 ?_; refine Z0k (Z00 (t := 6) rfl Z0a) ?_; refine T.ret ?_; refine Z0o ?_; refine Z0g ?_; obtain rfl := ret1 H; exact Z14 rfl rfl rfl rfl (Res.tmp rfl) Z08 ⟨rfl, rfl⟩
          · refine Z1d rfl s9 ?_; refine T.skip ?_; refine Z0j ?_; exact Z1u () H (Z00 rfl (Z00 rfl (Z00 rfl Z0a))) (Z03 tk0 (Z03 tk0 (Z03 tk0 (Z03 tk0 Z08))))
         ·
          refine Z27 rfl (Bool.eq_false_iff.2 s8) ?_; refine Z0d ?_; refine Z04 (ll := [0, 1, 2, 3, 4, 5]) rfl ?_; refine Z09 rfl rfl rfl rfl Zav ?_; refine Z0f rfl rfl rfl rfl Z5q mm5 rfl ?_; refine Z09 rfl rfl rfl rfl Zau ?_; refine Z0f rfl rfl rfl rfl Z5q mm5 rfl ?_; refine Z0s rfl rfl rfl rfl rfl rfl ?_; refine Z07 rfl rfl rfl rfl ?_; refine Z02 ?_; refine Z01 ?_; rcases Z0h H with ⟨t0, H⟩ | ⟨t0, H⟩
          ·
           refine Z1c rfl t0 ?_; refine Z0d ?_; refine Z04 (ll := [0, 1]) rfl ?_; refine Z06 rfl rfl rfl rfl ?_; refine Z0s rfl rfl rfl rfl rfl rfl ?_; refine Z02 ?_; refine Z01 ?_; refine Z0k (Z00 (t := 3) rfl (Z00 (t := 7) rfl (Z00 (t := 9) rfl (Z00 (t := 103) rfl Z0a)))) ?_; rcases Z0h H with ⟨t1, H⟩ | ⟨t1, H⟩
           · refine Z1c rfl t1 ?_; refine Z0d ?_; refine Z04 (ll := [0]) rfl ?_; refine Z07 rfl rfl rfl rfl ?_; refine Z02 ?_; refine Z01 ?_; refine T.ret ?_; refine Z0o ?_; refine Z0g ?_; obtain rfl := ret1 H; exact Z14 rfl rfl rfl rfl (Res.tmp rfl) Z08 ⟨rfl, rfl⟩
           · refine Z1d rfl t1 ?_; refine T.skip ?_; refine Z0j ?_; exact Z1u () H (Z00 rfl (Z00 rfl (Z00 rfl Z0a))) (Z03 tk0 (Z03 tk0 (Z03 tk0 (Z03 tk0 Z08))))
          ·
           refine Z1d rfl t0 ?_; refine Z0d ?_; rcases Z0h H with ⟨t4, H⟩ | ⟨t4, H⟩
           ·
            refine Z04 (ll := [0, 1, 2, 3, 4, 5, 6]) rfl ?_; refine Z06 rfl rfl rfl rfl ?_; refine Z0s rfl rfl rfl rfl rfl rfl ?_; refine Z06 rfl rfl rfl rfl ?_; refine Z0v (t := 107) (b' := true) rfl (decide_eq_true t4) ?_; refine Z06 rfl rfl rfl rfl ?_; refine Z0s rfl rfl rfl rfl rfl rfl ?_; refine Z0x rfl rfl rfl rfl rfl ?_; refine Z07 rfl rfl rfl rfl ?_; refine Z02 ?_; refine Z01 ?_; refine Z0k (Z00 (t := 3) rfl (Z00 (t := 7) rfl (Z00 (t := 9) rfl (Z00 (t := 104) rfl Z0a)))) ?_; rcases Z0h H with ⟨t5, H⟩ | ⟨t5, H⟩
            · refine Z1c rfl t5 ?_; refine Z0d ?_; refine Z04 (ll := [0]) rfl ?_; refine Z07 rfl rfl rfl rfl ?_; refine Z02 ?_; refine Z01 ?_; refine T.ret ?_; refine Z0o ?_; refine Z0g ?_; obtain rfl := ret1 H; exact Z14 rfl rfl rfl rfl (Res.tmp rfl) Z08 ⟨rfl, rfl⟩
            · refine Z1d rfl t5 ?_; refine T.skip ?_; refine Z0j ?_; exact Z1u () H (Z00 rfl (Z00 rfl (Z00 rfl Z0a))) (Z03 tk0 (Z03 tk0 (Z03 tk0 (Z03 tk0 Z08))))
           · refine Z04 (ll := [0, 1, 2, 3, 4, 5, 6]) rfl ?_; refine Z06 rfl rfl rfl rfl ?_; refine Z0s rfl rfl rfl rfl rfl rfl ?_; refine Z06 rfl rfl rfl rfl ?_; refine Z0v (t := 107) (b' := false) rfl (decide_eq_false t4) ?_; refine Z0c rfl rfl rfl rfl ?_; refine Z0c rfl rfl rfl rfl ?_; refine Z10 rfl rfl rfl rfl rfl ?_; refine Z07 rfl rfl rfl rfl ?_; refine Z02 ?_; refine Z01 ?_; refine Z0k (Z00 (t := 3) rfl (Z00 (t := 7) rfl (Z00 (t := 9) rfl (Z00 (t := 104) rfl Z0a)))) ?_; refine Z27 rfl rfl ?_; refine T.skip ?_; refine Z0j ?_; exact Z1u () H (Z00 rfl (Z00 rfl (Z00 rfl Z0a))) (Z03 tk0 (Z03 tk0 (Z03 tk0 (Z03 tk0 Z08))))
       · refine Z27 rfl (Bool.eq_false_iff.2 s6) ?_; refine T.skip ?_; exact Z1u () H (Z00 rfl (Z00 rfl (Z00 rfl Z0a))) (Z03 tk0 (Z03 tk0 (Z03 tk0 (Z03 tk0 Z08))))
      ·
       rintro s5 H; unfold Z19 at H; refine Z0d ?_; obtain ⟨w3, H⟩ := Z0e H; obtain ⟨w4, H⟩ := Z0e H; refine Z04 (ll := [0, 1, 2, 3, 4, 5, 6, 7]) rfl ?_; refine Z7u rfl rfl rfl Z1z Z1q ?_; intro w5; refine Z06 rfl rfl rfl rfl ?_; refine Zcw (f := boolC) (s := 1) (xs := ([] : List Bool)) (ob := some w5) (j := ([])) (ys := a6) (fun _ => rfl) (fun _ => rfl) Z5f w3 rfl rfl rfl rfl rfl tk0 rfl (Nat.le_refl _) (Z3n 0 _) Z1g (fun wc hwc => (hwc.rs (f := boolC) (s := 1) (xs := a6) (j := d6) (fun _ => rfl) mm4 e1 k8 k9)) ?_; intro d7 c83 h7 o2 w6 o4; refine Z7u rfl rfl rfl Z1z Z1q ?_; intro w7; refine Z06 rfl rfl rfl rfl ?_; refine Zcw (f := boolC) (s := 1) (xs := ([] : List Bool)) (ob := some w7) (j := ([])) (ys := a6) (fun _ => rfl) (fun _ => rfl) Z5f w4 rfl rfl rfl rfl rfl tk0 rfl (Nat.le_refl _) (Z3n 0 _) Z1g (fun wc hwc => (hwc.rs (f := boolC) (s := 1) (xs := a6) (j := d6) (fun _ => rfl) mm5 e1 k8 k9)) ?_; intro d9 r5 i4 o9 w8 p0; refine Z07 rfl rfl rfl rfl ?_; refine Z07 rfl rfl rfl rfl ?_; refine Z02 ?_; refine Z01 ?_; refine Z0d ?_; obtain ⟨u7, H⟩ := Z0e H; obtain ⟨q8, H⟩ := Z0e H; apply Zb2 [⟨[], false, [], Z1m _⟩, ⟨[], false, [], Z1m _⟩, ⟨[1], false, [], Z1m _⟩, ⟨[], false, [], Z1m _⟩, ⟨[], false, [], Z1m _⟩, ⟨[4], false, [], Z1m _⟩, ⟨[0, 2], false, [], Z1m _⟩, ⟨[0, 2, 6], true, [], relN⟩] [117, 118, 119, 120, 121, 122, 123] 8 (HRk [[(d7, .cells (arr boolC a6 h7).toArray 4 (0, 0))], [(d7, .cells (arr boolC (a6.set r3.T.toNat true) h7).toArray 4 (0, 0))]]) [[], []] [(d7, .cells (arr boolC a6 h7).toArray 4 (0, 0))] [(d9, .cells (arr boolC a6 i4).toArray 4 (0, 0)), (some b1, .cells #[.int .i64 r3.N, .int .i64 r3.S, .int .i64 r3.T, .slice (sb d1) n6 c7] 24 (0, 0)), (d1, .cells (arr Z2k r3.Arcs j8).toArray 35 (0, 0)), (a4, .cells (arr (intC .i64) a8 b7).toArray 2 (0, 0)), (a9, .cells (arr boolC a6 d6).toArray 4 (0, 0))]
       · exact Z4l
       · exact rfl
       · kernel_rfl
       · kernel_rfl
       · kernel_rfl
       · exact rfl
       · exact rfl
       · exact rfl
       · exact rfl
       · exact (by repeat (first | exact Z05 _ | exact Z08 | apply Pick.none | refine Z03 (by repeat (first | exact Take.head _ _ | apply Take.tail)) ?_))
       ·
        refine ⟨?_, ?_, ?_, ?_, ?_, ?_, ?_, ?_, trivial⟩
        · rintro vs es Es Hx -; refine Z0b (D := []) rfl ?_; refine Z06 rfl rfl rfl rfl ?_; refine Z02 ?_; exact Z0u rfl ⟨rfl, rfl⟩ (Z05 _) rfl
        · rintro vs es Es Hx -; refine Z0b (D := []) rfl ?_; refine Z09 rfl rfl rfl rfl Zaw ?_; refine Z02 ?_; exact Z0u rfl ⟨rfl, rfl⟩ (Z05 _) rfl
        · rintro vs es Es Hx ⟨⟨i5, l8⟩, -⟩; refine Z0b (D := [(118, vs 1)]) rfl ?_; rw [i5]; refine Z0f rfl rfl rfl rfl Z5q mm1 rfl ?_; refine Z02 ?_; exact Z0u rfl ⟨rfl, rfl⟩ (Z05 _) (by show [(118, vs 1)] = _; rw [i5])
        · rintro vs es Es Hx -; refine Z0b (D := []) rfl ?_; refine Z06 rfl rfl rfl rfl ?_; refine Z02 ?_; exact Z0u rfl ⟨rfl, rfl⟩ (Z05 _) rfl
        · rintro vs es Es Hx -; refine Z0b (D := []) rfl ?_; refine Z09 rfl rfl rfl rfl Zax ?_; refine Z02 ?_; exact Z0u rfl ⟨rfl, rfl⟩ (Z05 _) rfl
        · rintro vs es Es Hx ⟨⟨i6, l9⟩, -⟩; refine Z0b (D := [(121, vs 4)]) rfl ?_; rw [i6]; refine Z0f rfl rfl rfl rfl Z5q mm1 rfl ?_; refine Z02 ?_; exact Z0u rfl ⟨rfl, rfl⟩ (Z05 _) (by show [(121, vs 4)] = _; rw [i6])
        · rintro vs es Es Hx ⟨⟨i2, l0⟩, ⟨i1, l6⟩, -⟩; refine Z0b (D := [(117, vs 0), (119, vs 2)]) rfl ?_; rw [i2, i1]; refine Z4j o4 o2 (Z3h e1) u7 rfl rfl rfl rfl rfl Z1z Z1q ?_; refine Z02 ?_; exact Z0u rfl ⟨rfl, rfl⟩ (Z05 _) (by show [(117, vs 0), (119, vs 2)] = _; rw [i2, i1])
        · rintro vs es Es Hx hb ⟨⟨i2, l0⟩, ⟨i1, l6⟩, ⟨h3, j0⟩, -⟩ hHR; obtain rfl : hb = [(d7, .cells (arr boolC a6 h7).toArray 4 (0, 0))] := hHR; refine Z0b (D := [(117, vs 0), (119, vs 2), (123, vs 6)]) rfl ?_; rw [i2, i1, h3]; refine Zgw o4 o2 (Z3h e1) u7 rfl rfl rfl rfl tk0 Z1q ?_; refine Z02 ?_; exact Zgp (hb' := [(d7, .cells (arr boolC (a6.set r3.T.toNat true) h7).toArray 4 (0, 0))]) rfl rfl rfl (by repeat (first | exact Z05 _ | exact Z08 | apply Pick.none | refine Z03 (by repeat (first | exact Take.head _ _ | apply Take.tail)) ?_)) (by show [(117, vs 0), (119, vs 2), (123, vs 6)] = _; rw [i2, i1, h3])
       ·
        rintro vs es hb ⟨⟨i2, l0⟩, ⟨i5, l8⟩, ⟨i1, l6⟩, ⟨i9, n5⟩, ⟨i6, l9⟩, ⟨c9, e8⟩, ⟨h3, j0⟩, l7, -⟩ hHR; obtain rfl : hb = [(d7, .cells (arr boolC (a6.set r3.T.toNat true) h7).toArray 4 (0, 0))] := hHR; refine Z0b (D := [(117, vs 0), (118, vs 1), (119, vs 2), (120, vs 3), (121, vs 4), (122, vs 5), (123, vs 6)]) rfl ?_; refine Z16 (H := [(d7, .cells (arr boolC (a6.set r3.T.toNat true) h7).toArray 4 (0, 0)), (d9, .cells (arr boolC a6 i4).toArray 4 (0, 0)), (some b1, .cells #[.int .i64 r3.N, .int .i64 r3.S, .int .i64 r3.T, .slice (sb d1) n6 c7] 24 (0, 0)), (d1, .cells (arr Z2k r3.Arcs j8).toArray 35 (0, 0)), (a4, .cells (arr (intC .i64) a8 b7).toArray 2 (0, 0)), (a9, .cells (arr boolC a6 d6).toArray 4 (0, 0))]) (by show _ ++ (_ ++ (es 0 ++ (es 1 ++ (es 2 ++ (es 3 ++ (es 4 ++ (es 5 ++ (es 6 ++ (es 7 ++ ([])))))))))) = _; rw [l0, l8, l6, n5, l9, e8, j0, l7]; rfl) ?_; rw [i2, i5, i1, i9, i6, c9, h3]; clear h3 c9 i6 i9 i1 i5 i2 l0 l8 l6 n5 l9 e8 j0 l7; refine Z4j p0 o9 (Z3h e1) q8 rfl rfl rfl rfl rfl Z1z Z1q ?_; refine Zgw p0 o9 (Z3h e1) q8 rfl rfl rfl rfl tk1 Z1q ?_; refine Z02 ?_; refine Z01 ?_; refine Z0k (Z00 (t := 3) rfl (Z00 (t := 7) rfl (Z00 (t := 9) rfl (Z00 (t := 16) rfl (Z00 (t := 17) rfl Z0a))))) ?_; refine Z0d ?_; obtain ⟨o6, p2, H⟩ := Z0q H; rcases Z0h H with ⟨p1, H⟩ | ⟨p1, H⟩
        ·
         obtain ⟨l4, p5, H⟩ := Z0q H; rcases Z0h H with ⟨p3, H⟩ | ⟨p3, H⟩
         ·
          obtain ⟨p7, H⟩ := Z0e H; obtain ⟨l5, p8, H⟩ := Z0q H; rcases Z0h H with ⟨p6, H⟩ | ⟨p6, H⟩
          ·
           obtain ⟨p4, H⟩ := Z0e H; obtain ⟨n8, q2, H⟩ := Z0q H; rcases Z0h H with ⟨p9, H⟩ | ⟨p9, H⟩
           ·
            obtain ⟨q9, H⟩ := Z0e H; obtain ⟨w9, r1, H⟩ := Z0q H; rcases Z0h H with ⟨q3, H⟩ | ⟨q3, H⟩
            ·
             obtain ⟨x2, t6, H⟩ := Z0q H; apply Ze5 [⟨[], false, [], Z1m (.agg #[.int .i64 r3.N, .int .i64 r3.S, .int .i64 r3.T, .slice (sb d1) n6 c7])⟩, ⟨[], false, [], Z1m (.slice (sb a4) f0 h9)⟩, ⟨[], false, [], Z1m (.slice (sb d7) (0 + k6) c83)⟩, ⟨[0, 1, 2], true, [], Z1m (.int .i64 o6)⟩, ⟨[3], false, [], Z1m (.bool (decide (o6 = 63)))⟩, ⟨[4], false, [], Z1m (.bool true)⟩, ⟨[5], false, [], Z1m (.agg #[.int .i64 r3.N, .int .i64 r3.S, .int .i64 r3.T, .slice (sb d1) n6 c7])⟩, ⟨[5], false, [], Z1m (.slice (sb a4) f0 h9)⟩, ⟨[5], false, [], Z1m (.slice (sb d9) (0 + k6) r5)⟩, ⟨[5, 6, 7, 8], true, [], Z1m (.int .i64 l4)⟩, ⟨[5, 9], false, [], Z1m (.bool (decide (l4 = 63)))⟩, ⟨[5, 10], false, [], Z1m (.bool (decide (l4 = 63)))⟩, ⟨[11], false, [], Z1m (.bool true)⟩, ⟨[12], false, [], Z1m (.agg #[.int .i64 r3.N, .int .i64 r3.S, .int .i64 r3.T, .slice (sb d1) n6 c7])⟩, ⟨[12], true, [], fun _ v e => v = .slice (sb a4) f0 h9 ∧ e = [(a4, .cells (arr (intC .i64) a8 b7).toArray 2 (0, 0))]⟩, ⟨[12], false, [], fun _ v e => ∃ (e0 : Nat), v = .slice (some ⟨e0, 0, none⟩) 1 1 ∧ e = [(some e0, .cells (arr (intC .i64) ([0]) ([])).toArray 2 (0, 0))]⟩, ⟨[12, 14, 15], false, [14], fun _ v e => ∃ (a5 : Option Nat) (d4 : Nat) (b5 : List Value) (a2 : Option Nat), v = .slice (sb a5) (f0 + 1) d4 ∧ e = [(a5, .cells (arr (intC .i64) (a8 ++ ([0])) b5).toArray 2 (0, 0)), (a2, .cells (arr (intC .i64) a8 b7).toArray 2 (0, 0))] ∧ (f0 + 1) ≤ d4 ∧ b5.length = (d4 - (f0 + 1)) * 1 ∧ (a5 = none → d4 = 0) ∧ Kept a4 a2 a5⟩, ⟨[12], false, [], Z1m (.slice (sb a9) k6 o1)⟩, ⟨[12, 13, 16, 17], true, [], Z1m (.int .i64 l5)⟩, ⟨[12, 18], false, [], Z1m (.bool (decide (l5 = 60)))⟩, ⟨[12, 19], false, [], Z1m (.bool (decide (l5 = 60)))⟩, ⟨[20], false, [], Z1m (.bool true)⟩, ⟨[21], false, [], Z1m (.agg #[.int .i64 r3.N, .int .i64 r3.S, .int .i64 r3.T, .slice (sb d1) n6 c7])⟩, ⟨[16, 21], false, [], Z1m (.slice (sb a4) f0 h9)⟩, ⟨[21], false, [], Z1m (.slice (sb a9) k6 o1)⟩, ⟨[21, 24], false, [], Z1m (.slice (Zhk (sb a9) (1 : Int).toNat o1 1) (k6 - (1 : Int).toNat) (o1 - (1 : Int).toNat))⟩, ⟨[16, 21, 22, 23, 25], true, [], Z1m (.int .i64 n8)⟩, ⟨[21, 26], false, [], Z1m (.bool (decide (n8 = 60)))⟩, ⟨[21, 27], false, [], Z1m (.bool (decide (n8 = 60)))⟩, ⟨[28], false, [], Z1m (.bool true)⟩, ⟨[29], false, [], Z1m (.agg #[.int .i64 r3.N, .int .i64 r3.S, .int .i64 r3.T, .slice (sb d1) n6 c7])⟩, ⟨[16, 29], false, [], Z1m (.slice (sb a4) f0 h9)⟩, ⟨[29], true, [], fun _ v e => v = .slice (sb a9) k6 o1 ∧ e = [(a9, .cells (arr boolC a6 d6).toArray 4 (0, 0))]⟩, ⟨[29], false, [], fun _ v e => ∃ (i8 : Nat), v = .slice (some ⟨i8, 0, none⟩) 1 1 ∧ e = [(some i8, .cells (arr boolC ([false]) ([])).toArray 4 (0, 0))]⟩, ⟨[29, 32, 33], false, [32], fun _ v e => ∃ (e9 : Option Nat) (c131 : Nat) (j2 : List Value) (e5 : Option Nat), v = .slice (sb e9) (k6 + 1) c131 ∧ e = [(e9, .cells (arr boolC (a6 ++ ([false])) j2).toArray 4 (0, 0)), (e5, .cells (arr boolC a6 d6).toArray 4 (0, 0))] ∧ (k6 + 1) ≤ c131 ∧ j2.length = (c131 - (k6 + 1)) * 1 ∧ (e9 = none → c131 = 0) ∧ Kept a9 e5 e9⟩] [125, 126, 127, 128, 129, 130, 131, 132, 133, 134, 135, 136, 137, 138, 139, 140, 141, 142, 143, 144, 145, 146, 147, 148, 149, 150, 151, 152, 153, 154, 155, 156, 157, 158, 159] 35 (HRk [[(a4, .cells (arr (intC .i64) a8 b7).toArray 2 (0, 0)), (a9, .cells (arr boolC a6 d6).toArray 4 (0, 0))], [(a4, .cells (arr (intC .i64) a8 b7).toArray 2 (0, 0)), (a9, .cells (arr boolC a6 d6).toArray 4 (0, 0))], [(a4, .cells (arr (intC .i64) a8 b7).toArray 2 (0, 0)), (a9, .cells (arr boolC a6 d6).toArray 4 (0, 0))], [(a9, .cells (arr boolC a6 d6).toArray 4 (0, 0))], [(a9, .cells (arr boolC a6 d6).toArray 4 (0, 0))], [(a9, .cells (arr boolC a6 d6).toArray 4 (0, 0))], []]) [[], [], [], [], [], [], []] [(a4, .cells (arr (intC .i64) a8 b7).toArray 2 (0, 0)), (a9, .cells (arr boolC a6 d6).toArray 4 (0, 0))] [(d9, .cells (arr boolC (a6.set r3.S.toNat false) i4).toArray 4 (0, 0)), (d7, .cells (arr boolC (a6.set r3.T.toNat true) h7).toArray 4 (0, 0)), (some b1, .cells #[.int .i64 r3.N, .int .i64 r3.S, .int .i64 r3.T, .slice (sb d1) n6 c7] 24 (0, 0)), (d1, .cells (arr Z2k r3.Arcs j8).toArray 35 (0, 0))]
             · exact Z4l
             · exact rfl
             · kernel_rfl
             · kernel_rfl
             · kernel_rfl
             · kernel_rfl
             · exact rfl
             · exact rfl
             · exact rfl
             · exact (by repeat (first | exact Z05 _ | exact Z08 | apply Pick.none | refine Z03 (by repeat (first | exact Take.head _ _ | apply Take.tail)) ?_))
             ·
              refine ⟨?_, ?_, ?_, ?_, ?_, ?_, ?_, ?_, ?_, ?_, ?_, ?_, ?_, ?_, ?_, ?_, ?_, ?_, ?_, ?_, ?_, ?_, ?_, ?_, ?_, ?_, ?_, ?_, ?_, ?_, ?_, ?_, ?_, ?_, ?_, trivial⟩
              · rintro vs es Es Hx -; refine Z0b (D := []) rfl ?_; refine Z0m rfl rfl rfl rfl Z0t mm2 rfl ?_; refine Z02 ?_; exact Z0u rfl ⟨rfl, rfl⟩ (Z05 _) rfl
              · rintro vs es Es Hx -; refine Z0b (D := []) rfl ?_; refine Z06 rfl rfl rfl rfl ?_; refine Z02 ?_; exact Z0u rfl ⟨rfl, rfl⟩ (Z05 _) rfl
              · rintro vs es Es Hx -; refine Z0b (D := []) rfl ?_; refine Z06 rfl rfl rfl rfl ?_; refine Z02 ?_; exact Z0u rfl ⟨rfl, rfl⟩ (Z05 _) rfl
              · rintro vs es Es Hx hb ⟨⟨i2, l0⟩, ⟨i5, l8⟩, ⟨i1, l6⟩, -⟩ hHR; obtain rfl : hb = [(a4, .cells (arr (intC .i64) a8 b7).toArray 2 (0, 0)), (a9, .cells (arr boolC a6 d6).toArray 4 (0, 0))] := hHR; refine Z0b (D := [(125, vs 0), (126, vs 1), (127, vs 2)]) rfl ?_; rw [i2, i5, i1]; refine Z0l Z0w rfl rfl rfl rfl (fun wc hwc => Z12 (n0 := r3) (f1 := a8) (s2 := (a6.set r3.T.toNat true)) wc (hwc.rs (f := Z2k) (s := 3) (xs := r3.Arcs) (j := j8) (fun _ => rfl) mm5 k7 e6 e7) (hwc.rs (f := (intC .i64)) (s := 1) (xs := a8) (j := b7) (fun _ => rfl) mm0 d0 e2 e3) (hwc.rs (f := boolC) (s := 1) (xs := (a6.set r3.T.toNat true)) (j := h7) (fun _ => rfl) mm3 (List.length_set.trans (Z3h e1)) o2 o4) p2) ?_; rintro _ _ ⟨rfl, rfl⟩; refine Z02 ?_; exact Z7w (hb' := [(a4, .cells (arr (intC .i64) a8 b7).toArray 2 (0, 0)), (a9, .cells (arr boolC a6 d6).toArray 4 (0, 0))]) rfl ⟨rfl, rfl⟩ rfl (by repeat (first | exact Z05 _ | exact Z08 | apply Pick.none | refine Z03 (by repeat (first | exact Take.head _ _ | apply Take.tail)) ?_)) (by show [(125, vs 0), (126, vs 1), (127, vs 2)] = _; rw [i2, i5, i1])
              · rintro vs es Es Hx ⟨⟨i9, n5⟩, -⟩; refine Z0b (D := [(128, vs 3)]) rfl ?_; rw [i9]; refine Z0s rfl rfl rfl rfl rfl rfl ?_; refine Z02 ?_; exact Z0u rfl ⟨rfl, rfl⟩ (Z05 _) (by show [(128, vs 3)] = _; rw [i9])
              · rintro vs es Es Hx ⟨⟨i6, l9⟩, -⟩; refine Z0b (D := [(129, vs 4)]) rfl ?_; rw [i6]; refine Z06 rfl rfl rfl rfl ?_; refine Z0v (t := 130) (b' := true) rfl (decide_eq_true p1) ?_; refine Z02 ?_; exact Z8o rfl ⟨rfl, rfl⟩ (Z05 _) (by show [(129, vs 4)] = _; rw [i6])
              · rintro vs es Es Hx ⟨⟨c9, e8⟩, -⟩; refine Z0b (D := [(130, vs 5)]) rfl ?_; rw [c9]; refine Z0m rfl rfl rfl rfl Z0t mm2 rfl ?_; refine Z02 ?_; exact Z0u rfl ⟨rfl, rfl⟩ (Z05 _) (by show [(130, vs 5)] = _; rw [c9])
              · rintro vs es Es Hx ⟨⟨c9, e8⟩, -⟩; refine Z0b (D := [(130, vs 5)]) rfl ?_; rw [c9]; refine Z06 rfl rfl rfl rfl ?_; refine Z02 ?_; exact Z0u rfl ⟨rfl, rfl⟩ (Z05 _) (by show [(130, vs 5)] = _; rw [c9])
              · rintro vs es Es Hx ⟨⟨c9, e8⟩, -⟩; refine Z0b (D := [(130, vs 5)]) rfl ?_; rw [c9]; refine Z06 rfl rfl rfl rfl ?_; refine Z02 ?_; exact Z0u rfl ⟨rfl, rfl⟩ (Z05 _) (by show [(130, vs 5)] = _; rw [c9])
              · rintro vs es Es Hx hb ⟨⟨c9, e8⟩, ⟨h3, j0⟩, ⟨j1, l7⟩, ⟨l1, n9⟩, -⟩ hHR; obtain rfl : hb = [(a4, .cells (arr (intC .i64) a8 b7).toArray 2 (0, 0)), (a9, .cells (arr boolC a6 d6).toArray 4 (0, 0))] := hHR; refine Z0b (D := [(130, vs 5), (131, vs 6), (132, vs 7), (133, vs 8)]) rfl ?_; rw [c9, h3, j1, l1]; refine Z0l Z0w rfl rfl rfl rfl (fun wc hwc => Z12 (n0 := r3) (f1 := a8) (s2 := (a6.set r3.S.toNat false)) wc (hwc.rs (f := Z2k) (s := 3) (xs := r3.Arcs) (j := j8) (fun _ => rfl) mm5 k7 e6 e7) (hwc.rs (f := (intC .i64)) (s := 1) (xs := a8) (j := b7) (fun _ => rfl) mm0 d0 e2 e3) (hwc.rs (f := boolC) (s := 1) (xs := (a6.set r3.S.toNat false)) (j := i4) (fun _ => rfl) mm2 (List.length_set.trans (Z3h e1)) o9 p0) p5) ?_; rintro _ _ ⟨rfl, rfl⟩; refine Z02 ?_; exact Z7w (hb' := [(a4, .cells (arr (intC .i64) a8 b7).toArray 2 (0, 0)), (a9, .cells (arr boolC a6 d6).toArray 4 (0, 0))]) rfl ⟨rfl, rfl⟩ rfl (by repeat (first | exact Z05 _ | exact Z08 | apply Pick.none | refine Z03 (by repeat (first | exact Take.head _ _ | apply Take.tail)) ?_)) (by show [(130, vs 5), (131, vs 6), (132, vs 7), (133, vs 8)] = _; rw [c9, h3, j1, l1])
              · rintro vs es Es Hx ⟨⟨c9, e8⟩, ⟨l3, o0⟩, -⟩; refine Z0b (D := [(130, vs 5), (134, vs 9)]) rfl ?_; rw [c9, l3]; refine Z0s rfl rfl rfl rfl rfl rfl ?_; refine Z02 ?_; exact Z0u rfl ⟨rfl, rfl⟩ (Z05 _) (by show [(130, vs 5), (134, vs 9)] = _; rw [c9, l3])
              · rintro vs es Es Hx ⟨⟨c9, e8⟩, ⟨f2, j3⟩, -⟩; refine Z0b (D := [(130, vs 5), (135, vs 10)]) rfl ?_; rw [c9, f2]; refine Z0x rfl rfl rfl rfl rfl ?_; refine Z02 ?_; exact Z0u rfl ⟨rfl, rfl⟩ (Z05 _) (by show [(130, vs 5), (135, vs 10)] = _; rw [c9, f2])
              · rintro vs es Es Hx ⟨⟨f3, j4⟩, -⟩; refine Z0b (D := [(136, vs 11)]) rfl ?_; rw [f3]; refine Z06 rfl rfl rfl rfl ?_; refine Z0v (t := 137) (b' := true) rfl (decide_eq_true p3) ?_; refine Z02 ?_; exact Z8o rfl ⟨rfl, rfl⟩ (Z05 _) (by show [(136, vs 11)] = _; rw [f3])
              · rintro vs es Es Hx ⟨⟨a3, b6⟩, -⟩; refine Z0b (D := [(137, vs 12)]) rfl ?_; rw [a3]; refine Z0m rfl rfl rfl rfl Z0t mm2 rfl ?_; refine Z02 ?_; exact Z0u rfl ⟨rfl, rfl⟩ (Z05 _) (by show [(137, vs 12)] = _; rw [a3])
              · rintro vs es Es Hx hb ⟨⟨a3, b6⟩, -⟩ hHR; obtain rfl : hb = [(a4, .cells (arr (intC .i64) a8 b7).toArray 2 (0, 0)), (a9, .cells (arr boolC a6 d6).toArray 4 (0, 0))] := hHR; refine Z0b (D := [(137, vs 12)]) rfl ?_; rw [a3]; refine Z06 rfl rfl rfl rfl ?_; refine Z02 ?_; exact Zfg (hb' := [(a9, .cells (arr boolC a6 d6).toArray 4 (0, 0))]) (e' := [(a4, .cells (arr (intC .i64) a8 b7).toArray 2 (0, 0))]) rfl ⟨rfl, rfl⟩ rfl (by repeat (first | exact Z05 _ | exact Z08 | apply Pick.none | refine Z03 (by repeat (first | exact Take.head _ _ | apply Take.tail)) ?_)) (by show [(137, vs 12)] = _; rw [a3])
              · rintro vs es Es Hx ⟨⟨a3, b6⟩, -⟩; refine Z0b (D := [(137, vs 12)]) rfl ?_; rw [a3]; refine Z0n [.int .i64 0] [0] rfl rfl rfl rfl Z1a Z1h Z3x rfl rfl (by simp only [Z1n, setCells, Value.cells, List.toList_toArray, List.getD_cons_zero, List.getD_cons_succ, List.set_cons_zero, List.set_cons_succ]; rfl) (by kernel_rfl) ?_; intro e0; refine Z02 ?_; exact Z0u rfl ⟨e0, rfl, rfl⟩ (by repeat (first | exact Z05 _ | exact Z08 | apply Pick.none | refine Z03 (by repeat (first | exact Take.head _ _ | apply Take.tail)) ?_)) (by show [(137, vs 12)] = _; rw [a3])
              · rintro vs es Es Hx ⟨⟨a3, b6⟩, ⟨f4, j5⟩, ⟨e0, f5, f6⟩, -⟩; refine Z0b (D := [(137, vs 12), (139, vs 14), (140, vs 15)]) rfl ?_; rw [a3, f4, f5]; refine Z16 (H := [(d9, .cells (arr boolC (a6.set r3.S.toNat false) i4).toArray 4 (0, 0)), (d7, .cells (arr boolC (a6.set r3.T.toNat true) h7).toArray 4 (0, 0)), (some b1, .cells #[.int .i64 r3.N, .int .i64 r3.S, .int .i64 r3.T, .slice (sb d1) n6 c7] 24 (0, 0)), (d1, .cells (arr Z2k r3.Arcs j8).toArray 35 (0, 0))] ++ ([(a4, .cells (arr (intC .i64) a8 b7).toArray 2 (0, 0)), (some e0, .cells (arr (intC .i64) ([0]) ([])).toArray 2 (0, 0))] ++ Hx)) (by show _ ++ ((es 12 ++ (es 14 ++ (es 15 ++ ([])))) ++ _) = _; rw [b6, j5, f6]; rfl) ?_; refine Zdf (f := (intC .i64)) (s := 1) (xs := a8) (ob := a4) (j := b7) (ys := [0]) (fun _ => rfl) (fun _ => rfl) Z4e p7 rfl rfl rfl rfl rfl tk4 d0 e2 n7 e3 (fun wc hwc => (hwc.rs (f := (intC .i64)) (s := 1) (xs := [0]) (j := ([])) (fun _ => rfl) mm5 rfl (Nat.le_refl _) Z1g)) ?_; intro a5 d4 b5 c3 d8 c4 a2 d3; refine Z02 ?_; exact Z0u rfl ⟨a5, d4, b5, a2, rfl, rfl, c3, d8, c4, d3⟩ (by show Pick (_ ++ (_ ++ ((es 12 ++ (es 15 ++ ([]))) ++ _))) _; rw [b6, f6]; exact (by repeat (first | exact Z05 _ | exact Z08 | apply Pick.none | refine Z03 (by repeat (first | exact Take.head _ _ | apply Take.tail)) ?_))) (by show [(137, vs 12), (139, vs 14), (140, vs 15)] = _; rw [a3, f4, f5])
              · rintro vs es Es Hx ⟨⟨a3, b6⟩, -⟩; refine Z0b (D := [(137, vs 12)]) rfl ?_; rw [a3]; refine Z06 rfl rfl rfl rfl ?_; refine Z02 ?_; exact Z0u rfl ⟨rfl, rfl⟩ (Z05 _) (by show [(137, vs 12)] = _; rw [a3])
              · rintro vs es Es Hx hb ⟨⟨a3, b6⟩, ⟨f7, f8⟩, ⟨a5, d4, b5, a2, b8, b9, c3, d8, c4, d3⟩, ⟨f9, g0⟩, -⟩ hHR; obtain rfl : hb = [(a9, .cells (arr boolC a6 d6).toArray 4 (0, 0))] := hHR; refine Z0b (D := [(137, vs 12), (138, vs 13), (141, vs 16), (142, vs 17)]) rfl ?_; rw [a3, f7, b8, f9]; refine Z16 (H := [(a9, .cells (arr boolC a6 d6).toArray 4 (0, 0))] ++ ([(d9, .cells (arr boolC (a6.set r3.S.toNat false) i4).toArray 4 (0, 0)), (d7, .cells (arr boolC (a6.set r3.T.toNat true) h7).toArray 4 (0, 0)), (some b1, .cells #[.int .i64 r3.N, .int .i64 r3.S, .int .i64 r3.T, .slice (sb d1) n6 c7] 24 (0, 0)), (d1, .cells (arr Z2k r3.Arcs j8).toArray 35 (0, 0))] ++ ([(a5, .cells (arr (intC .i64) (a8 ++ ([0])) b5).toArray 2 (0, 0)), (a2, .cells (arr (intC .i64) a8 b7).toArray 2 (0, 0))] ++ Hx))) (by show _ ++ (_ ++ ((es 12 ++ (es 13 ++ (es 16 ++ (es 17 ++ ([]))))) ++ _)) = _; rw [b6, f8, b9, g0]; rfl) ?_; refine Z0l Z0w rfl rfl rfl rfl (fun wc hwc => Z12 (n0 := r3) (f1 := (a8 ++ ([0]))) (s2 := a6) wc (hwc.rs (f := Z2k) (s := 3) (xs := r3.Arcs) (j := j8) (fun _ => rfl) mm4 k7 e6 e7) (hwc.rs (f := (intC .i64)) (s := 1) (xs := (a8 ++ ([0]))) (j := b5) (fun _ => rfl) mm5 (Z7o d0 rfl) c3 c4) (hwc.rs (f := boolC) (s := 1) (xs := a6) (j := d6) (fun _ => rfl) mm0 e1 k8 k9) p8) ?_; rintro _ _ ⟨rfl, rfl⟩; refine Z02 ?_; exact Z7w (hb' := [(a9, .cells (arr boolC a6 d6).toArray 4 (0, 0))]) rfl ⟨rfl, rfl⟩ rfl (by show Pick (_ ++ (_ ++ ((es 12 ++ (es 13 ++ (es 16 ++ (es 17 ++ ([]))))) ++ _))) _; rw [b6, f8, b9, g0]; exact (by repeat (first | exact Z05 _ | exact Z08 | apply Pick.none | refine Z03 (by repeat (first | exact Take.head _ _ | apply Take.tail)) ?_))) (by show [(137, vs 12), (138, vs 13), (141, vs 16), (142, vs 17)] = _; rw [a3, f7, b8, f9])
              · rintro vs es Es Hx ⟨⟨a3, b6⟩, ⟨g1, j6⟩, -⟩; refine Z0b (D := [(137, vs 12), (143, vs 18)]) rfl ?_; rw [a3, g1]; refine Z0s rfl rfl rfl rfl rfl rfl ?_; refine Z02 ?_; exact Z0u rfl ⟨rfl, rfl⟩ (Z05 _) (by show [(137, vs 12), (143, vs 18)] = _; rw [a3, g1])
              · rintro vs es Es Hx ⟨⟨a3, b6⟩, ⟨g2, j7⟩, -⟩; refine Z0b (D := [(137, vs 12), (144, vs 19)]) rfl ?_; rw [a3, g2]; refine Z0x rfl rfl rfl rfl rfl ?_; refine Z02 ?_; exact Z0u rfl ⟨rfl, rfl⟩ (Z05 _) (by show [(137, vs 12), (144, vs 19)] = _; rw [a3, g2])
              · rintro vs es Es Hx ⟨⟨g3, j9⟩, -⟩; refine Z0b (D := [(145, vs 20)]) rfl ?_; rw [g3]; refine Z06 rfl rfl rfl rfl ?_; refine Z0v (t := 146) (b' := true) rfl (decide_eq_true p6) ?_; refine Z02 ?_; exact Z8o rfl ⟨rfl, rfl⟩ (Z05 _) (by show [(145, vs 20)] = _; rw [g3])
              · rintro vs es Es Hx ⟨⟨a7, c8⟩, -⟩; refine Z0b (D := [(146, vs 21)]) rfl ?_; rw [a7]; refine Z0m rfl rfl rfl rfl Z0t mm2 rfl ?_; refine Z02 ?_; exact Z0u rfl ⟨rfl, rfl⟩ (Z05 _) (by show [(146, vs 21)] = _; rw [a7])
              · rintro vs es Es Hx ⟨⟨a5, d4, b5, a2, b8, b9, c3, d8, c4, d3⟩, ⟨a7, c8⟩, -⟩; refine Z0b (D := [(141, vs 16), (146, vs 21)]) rfl ?_; rw [b8, a7]; refine Z16 (H := [(d9, .cells (arr boolC (a6.set r3.S.toNat false) i4).toArray 4 (0, 0)), (d7, .cells (arr boolC (a6.set r3.T.toNat true) h7).toArray 4 (0, 0)), (some b1, .cells #[.int .i64 r3.N, .int .i64 r3.S, .int .i64 r3.T, .slice (sb d1) n6 c7] 24 (0, 0)), (d1, .cells (arr Z2k r3.Arcs j8).toArray 35 (0, 0))] ++ ([(a5, .cells (arr (intC .i64) (a8 ++ ([0])) b5).toArray 2 (0, 0)), (a2, .cells (arr (intC .i64) a8 b7).toArray 2 (0, 0))] ++ Hx)) (by show _ ++ ((es 16 ++ (es 21 ++ ([]))) ++ _) = _; rw [b9, c8]; rfl) ?_; refine Z06 rfl rfl rfl rfl ?_; refine Z02 ?_; exact Z0u rfl ⟨rfl, rfl⟩ (by show Pick (_ ++ (_ ++ ((es 16 ++ (es 21 ++ ([]))) ++ _))) _; rw [b9, c8]; exact (by repeat (first | exact Z05 _ | exact Z08 | apply Pick.none | refine Z03 (by repeat (first | exact Take.head _ _ | apply Take.tail)) ?_))) (by show [(141, vs 16), (146, vs 21)] = _; rw [b8, a7])
              · rintro vs es Es Hx ⟨⟨a7, c8⟩, -⟩; refine Z0b (D := [(146, vs 21)]) rfl ?_; rw [a7]; refine Z06 rfl rfl rfl rfl ?_; refine Z02 ?_; exact Z0u rfl ⟨rfl, rfl⟩ (Z05 _) (by show [(146, vs 21)] = _; rw [a7])
              · rintro vs es Es Hx ⟨⟨a7, c8⟩, ⟨g4, k1⟩, -⟩; refine Z0b (D := [(146, vs 21), (149, vs 24)]) rfl ?_; rw [a7, g4]; refine Zjy (xs := a6) e1 p4 rfl rfl rfl rfl rfl Z1z Z1q ?_; refine Z02 ?_; exact Z0u rfl ⟨rfl, rfl⟩ (Z05 _) (by show [(146, vs 21), (149, vs 24)] = _; rw [a7, g4])
              · rintro vs es Es Hx hb ⟨⟨a5, d4, b5, a2, b8, b9, c3, d8, c4, d3⟩, ⟨a7, c8⟩, ⟨g5, h4⟩, ⟨g6, h5⟩, ⟨g7, h6⟩, -⟩ hHR; obtain rfl : hb = [(a9, .cells (arr boolC a6 d6).toArray 4 (0, 0))] := hHR; refine Z0b (D := [(141, vs 16), (146, vs 21), (147, vs 22), (148, vs 23), (150, vs 25)]) rfl ?_; rw [b8, a7, g5, g6, g7]; refine Z16 (H := [(a9, .cells (arr boolC a6 d6).toArray 4 (0, 0))] ++ ([(d9, .cells (arr boolC (a6.set r3.S.toNat false) i4).toArray 4 (0, 0)), (d7, .cells (arr boolC (a6.set r3.T.toNat true) h7).toArray 4 (0, 0)), (some b1, .cells #[.int .i64 r3.N, .int .i64 r3.S, .int .i64 r3.T, .slice (sb d1) n6 c7] 24 (0, 0)), (d1, .cells (arr Z2k r3.Arcs j8).toArray 35 (0, 0))] ++ ([(a5, .cells (arr (intC .i64) (a8 ++ ([0])) b5).toArray 2 (0, 0)), (a2, .cells (arr (intC .i64) a8 b7).toArray 2 (0, 0))] ++ Hx))) (by show _ ++ (_ ++ ((es 16 ++ (es 21 ++ (es 22 ++ (es 23 ++ (es 25 ++ ([])))))) ++ _)) = _; rw [b9, c8, h4, h5, h6]; rfl) ?_; refine Z0l Z0w rfl rfl rfl rfl (fun wc hwc => Z12 (n0 := r3) (f1 := a8) (s2 := (a6.drop (1 : Int).toNat)) wc (hwc.rs (f := Z2k) (s := 3) (xs := r3.Arcs) (j := j8) (fun _ => rfl) mm4 k7 e6 e7) (d3.rs (f := (intC .i64)) (s := 1) (j := b7) (j' := b5) hwc (fun _ => rfl) mm5 mm6 (Z7o d0 rfl) c3 c4 d0 e2 e3) (RS.drop (hwc.rs (f := boolC) (s := 1) (xs := a6) (j := d6) (fun _ => rfl) mm0 e1 k8 k9) p4) q2) ?_; rintro _ _ ⟨rfl, rfl⟩; refine Z02 ?_; exact Z7w (hb' := [(a9, .cells (arr boolC a6 d6).toArray 4 (0, 0))]) rfl ⟨rfl, rfl⟩ rfl (by show Pick (_ ++ (_ ++ ((es 16 ++ (es 21 ++ (es 22 ++ (es 23 ++ (es 25 ++ ([])))))) ++ _))) _; rw [b9, c8, h4, h5, h6]; exact (by repeat (first | exact Z05 _ | exact Z08 | apply Pick.none | refine Z03 (by repeat (first | exact Take.head _ _ | apply Take.tail)) ?_))) (by show [(141, vs 16), (146, vs 21), (147, vs 22), (148, vs 23), (150, vs 25)] = _; rw [b8, a7, g5, g6, g7])
              · rintro vs es Es Hx ⟨⟨a7, c8⟩, ⟨g8, k2⟩, -⟩; refine Z0b (D := [(146, vs 21), (151, vs 26)]) rfl ?_; rw [a7, g8]; refine Z0s rfl rfl rfl rfl rfl rfl ?_; refine Z02 ?_; exact Z0u rfl ⟨rfl, rfl⟩ (Z05 _) (by show [(146, vs 21), (151, vs 26)] = _; rw [a7, g8])
              · rintro vs es Es Hx ⟨⟨a7, c8⟩, ⟨g9, k3⟩, -⟩; refine Z0b (D := [(146, vs 21), (152, vs 27)]) rfl ?_; rw [a7, g9]; refine Z0x rfl rfl rfl rfl rfl ?_; refine Z02 ?_; exact Z0u rfl ⟨rfl, rfl⟩ (Z05 _) (by show [(146, vs 21), (152, vs 27)] = _; rw [a7, g9])
              · rintro vs es Es Hx ⟨⟨h0, k4⟩, -⟩; refine Z0b (D := [(153, vs 28)]) rfl ?_; rw [h0]; refine Z06 rfl rfl rfl rfl ?_; refine Z0v (t := 154) (b' := true) rfl (decide_eq_true p9) ?_; refine Z02 ?_; exact Z8o rfl ⟨rfl, rfl⟩ (Z05 _) (by show [(153, vs 28)] = _; rw [h0])
              · rintro vs es Es Hx ⟨⟨b0, d5⟩, -⟩; refine Z0b (D := [(154, vs 29)]) rfl ?_; rw [b0]; refine Z0m rfl rfl rfl rfl Z0t mm2 rfl ?_; refine Z02 ?_; exact Z0u rfl ⟨rfl, rfl⟩ (Z05 _) (by show [(154, vs 29)] = _; rw [b0])
              · rintro vs es Es Hx ⟨⟨a5, d4, b5, a2, b8, b9, c3, d8, c4, d3⟩, ⟨b0, d5⟩, -⟩; refine Z0b (D := [(141, vs 16), (154, vs 29)]) rfl ?_; rw [b8, b0]; refine Z16 (H := [(d9, .cells (arr boolC (a6.set r3.S.toNat false) i4).toArray 4 (0, 0)), (d7, .cells (arr boolC (a6.set r3.T.toNat true) h7).toArray 4 (0, 0)), (some b1, .cells #[.int .i64 r3.N, .int .i64 r3.S, .int .i64 r3.T, .slice (sb d1) n6 c7] 24 (0, 0)), (d1, .cells (arr Z2k r3.Arcs j8).toArray 35 (0, 0))] ++ ([(a5, .cells (arr (intC .i64) (a8 ++ ([0])) b5).toArray 2 (0, 0)), (a2, .cells (arr (intC .i64) a8 b7).toArray 2 (0, 0))] ++ Hx)) (by show _ ++ ((es 16 ++ (es 29 ++ ([]))) ++ _) = _; rw [b9, d5]; rfl) ?_; refine Z06 rfl rfl rfl rfl ?_; refine Z02 ?_; exact Z0u rfl ⟨rfl, rfl⟩ (by show Pick (_ ++ (_ ++ ((es 16 ++ (es 29 ++ ([]))) ++ _))) _; rw [b9, d5]; exact (by repeat (first | exact Z05 _ | exact Z08 | apply Pick.none | refine Z03 (by repeat (first | exact Take.head _ _ | apply Take.tail)) ?_))) (by show [(141, vs 16), (154, vs 29)] = _; rw [b8, b0])
              · rintro vs es Es Hx hb ⟨⟨b0, d5⟩, -⟩ hHR; obtain rfl : hb = [(a9, .cells (arr boolC a6 d6).toArray 4 (0, 0))] := hHR; refine Z0b (D := [(154, vs 29)]) rfl ?_; rw [b0]; refine Z06 rfl rfl rfl rfl ?_; refine Z02 ?_; exact Zfg (hb' := []) (e' := [(a9, .cells (arr boolC a6 d6).toArray 4 (0, 0))]) rfl ⟨rfl, rfl⟩ rfl (by repeat (first | exact Z05 _ | exact Z08 | apply Pick.none | refine Z03 (by repeat (first | exact Take.head _ _ | apply Take.tail)) ?_)) (by show [(154, vs 29)] = _; rw [b0])
              · rintro vs es Es Hx ⟨⟨b0, d5⟩, -⟩; refine Z0b (D := [(154, vs 29)]) rfl ?_; rw [b0]; refine Z0n [.bool false] [0] rfl rfl rfl rfl Z1z Z1q Z77 rfl rfl (by simp only [Z1n, setCells, Value.cells, List.toList_toArray, List.getD_cons_zero, List.getD_cons_succ, List.set_cons_zero, List.set_cons_succ]; rfl) (by kernel_rfl) ?_; intro i8; refine Z02 ?_; exact Z0u rfl ⟨i8, rfl, rfl⟩ (by repeat (first | exact Z05 _ | exact Z08 | apply Pick.none | refine Z03 (by repeat (first | exact Take.head _ _ | apply Take.tail)) ?_)) (by show [(154, vs 29)] = _; rw [b0])
              · rintro vs es Es Hx ⟨⟨b0, d5⟩, ⟨h1, k5⟩, ⟨i8, h2, h8⟩, -⟩; refine Z0b (D := [(154, vs 29), (157, vs 32), (158, vs 33)]) rfl ?_; rw [b0, h1, h2]; refine Z16 (H := [(d9, .cells (arr boolC (a6.set r3.S.toNat false) i4).toArray 4 (0, 0)), (d7, .cells (arr boolC (a6.set r3.T.toNat true) h7).toArray 4 (0, 0)), (some b1, .cells #[.int .i64 r3.N, .int .i64 r3.S, .int .i64 r3.T, .slice (sb d1) n6 c7] 24 (0, 0)), (d1, .cells (arr Z2k r3.Arcs j8).toArray 35 (0, 0))] ++ ([(a9, .cells (arr boolC a6 d6).toArray 4 (0, 0)), (some i8, .cells (arr boolC ([false]) ([])).toArray 4 (0, 0))] ++ Hx)) (by show _ ++ ((es 29 ++ (es 32 ++ (es 33 ++ ([])))) ++ _) = _; rw [d5, k5, h8]; rfl) ?_; refine Zdf (f := boolC) (s := 1) (xs := a6) (ob := a9) (j := d6) (ys := [false]) (fun _ => rfl) (fun _ => rfl) Z5f q9 rfl rfl rfl rfl rfl tk4 e1 k8 q5 k9 (fun wc hwc => (hwc.rs (f := boolC) (s := 1) (xs := [false]) (j := ([])) (fun _ => rfl) mm5 rfl (Nat.le_refl _) Z1g)) ?_; intro e9 c131 j2 m2 o7 m3 e5 o8; refine Z02 ?_; exact Z0u rfl ⟨e9, c131, j2, e5, rfl, rfl, m2, o7, m3, o8⟩ (by show Pick (_ ++ (_ ++ ((es 29 ++ (es 33 ++ ([]))) ++ _))) _; rw [d5, h8]; exact (by repeat (first | exact Z05 _ | exact Z08 | apply Pick.none | refine Z03 (by repeat (first | exact Take.head _ _ | apply Take.tail)) ?_))) (by show [(154, vs 29), (157, vs 32), (158, vs 33)] = _; rw [b0, h1, h2])
             · rintro vs es hb ⟨⟨i2, l0⟩, ⟨i5, l8⟩, ⟨i1, l6⟩, ⟨i9, n5⟩, ⟨i6, l9⟩, ⟨c9, e8⟩, ⟨h3, j0⟩, ⟨j1, l7⟩, ⟨l1, n9⟩, ⟨l3, o0⟩, ⟨f2, j3⟩, ⟨f3, j4⟩, ⟨a3, b6⟩, ⟨f7, f8⟩, ⟨f4, j5⟩, ⟨e0, f5, f6⟩, ⟨a5, d4, b5, a2, b8, b9, c3, d8, c4, d3⟩, ⟨f9, g0⟩, ⟨g1, j6⟩, ⟨g2, j7⟩, ⟨g3, j9⟩, ⟨a7, c8⟩, ⟨g5, h4⟩, ⟨g6, h5⟩, ⟨g4, k1⟩, ⟨g7, h6⟩, ⟨g8, k2⟩, ⟨g9, k3⟩, ⟨h0, k4⟩, ⟨b0, d5⟩, ⟨m4, m5⟩, ⟨m6, m7⟩, ⟨h1, k5⟩, ⟨i8, h2, h8⟩, ⟨e9, c131, j2, e5, m8, m9, m2, o7, m3, o8⟩, -⟩ hHR; obtain rfl : hb = [] := hHR; refine Z0b (D := [(125, vs 0), (126, vs 1), (127, vs 2), (128, vs 3), (129, vs 4), (130, vs 5), (131, vs 6), (132, vs 7), (133, vs 8), (134, vs 9), (135, vs 10), (136, vs 11), (137, vs 12), (138, vs 13), (139, vs 14), (140, vs 15), (141, vs 16), (142, vs 17), (143, vs 18), (144, vs 19), (145, vs 20), (146, vs 21), (147, vs 22), (148, vs 23), (149, vs 24), (150, vs 25), (151, vs 26), (152, vs 27), (153, vs 28), (154, vs 29), (155, vs 30), (156, vs 31), (157, vs 32), (158, vs 33), (159, vs 34)]) rfl ?_; refine Z16 (H := [(d9, .cells (arr boolC (a6.set r3.S.toNat false) i4).toArray 4 (0, 0)), (d7, .cells (arr boolC (a6.set r3.T.toNat true) h7).toArray 4 (0, 0)), (some b1, .cells #[.int .i64 r3.N, .int .i64 r3.S, .int .i64 r3.T, .slice (sb d1) n6 c7] 24 (0, 0)), (d1, .cells (arr Z2k r3.Arcs j8).toArray 35 (0, 0)), (some e0, .cells (arr (intC .i64) ([0]) ([])).toArray 2 (0, 0)), (a5, .cells (arr (intC .i64) (a8 ++ ([0])) b5).toArray 2 (0, 0)), (a2, .cells (arr (intC .i64) a8 b7).toArray 2 (0, 0)), (some i8, .cells (arr boolC ([false]) ([])).toArray 4 (0, 0)), (e9, .cells (arr boolC (a6 ++ ([false])) j2).toArray 4 (0, 0)), (e5, .cells (arr boolC a6 d6).toArray 4 (0, 0))]) (by show _ ++ (_ ++ (es 0 ++ (es 1 ++ (es 2 ++ (es 3 ++ (es 4 ++ (es 5 ++ (es 6 ++ (es 7 ++ (es 8 ++ (es 9 ++ (es 10 ++ (es 11 ++ (es 12 ++ (es 13 ++ (es 15 ++ (es 16 ++ (es 17 ++ (es 18 ++ (es 19 ++ (es 20 ++ (es 21 ++ (es 22 ++ (es 23 ++ (es 24 ++ (es 25 ++ (es 26 ++ (es 27 ++ (es 28 ++ (es 29 ++ (es 30 ++ (es 31 ++ (es 33 ++ (es 34 ++ ([]))))))))))))))))))))))))))))))))))) = _; rw [l0, l8, l6, n5, l9, e8, j0, l7, n9, o0, j3, j4, b6, f8, f6, b9, g0, j6, j7, j9, c8, h4, h5, k1, h6, k2, k3, k4, d5, m5, m7, h8, m9]; rfl) ?_; rw [i2, i5, i1, i9, i6, c9, h3, j1, l1, l3, f2, f3, a3, f7, f4, f5, b8, f9, g1, g2, g3, a7, g5, g6, g4, g7, g8, g9, h0, b0, m4, m6, h1, h2, m8]; clear m8 h2 h1 m6 m4 b0 h0 g9 g8 g7 g4 g6 g5 a7 g3 g2 g1 f9 b8 f5 f4 f7 a3 f3 f2 l3 l1 j1 h3 c9 i6 i9 i1 i5 i2 l0 l8 l6 n5 l9 e8 j0 l7 n9 o0 j3 j4 b6 f8 j5 f6 b9 g0 j6 j7 j9 c8 h4 h5 k1 h6 k2 k3 k4 d5 m5 m7 k5 h8 m9; refine Z0l Z0w rfl rfl rfl rfl (fun wc hwc => Z12 (n0 := r3) (f1 := a8) (s2 := (a6 ++ ([false]))) wc (hwc.rs (f := Z2k) (s := 3) (xs := r3.Arcs) (j := j8) (fun _ => rfl) mm3 k7 e6 e7) (d3.rs (f := (intC .i64)) (s := 1) (j := b7) (j' := b5) hwc (fun _ => rfl) mm5 mm6 (Z7o d0 rfl) c3 c4 d0 e2 e3) (hwc.rs (f := boolC) (s := 1) (xs := (a6 ++ ([false]))) (j := j2) (fun _ => rfl) mm8 (Z7o e1 rfl) m2 m3) r1) ?_; rintro _ _ ⟨rfl, rfl⟩; refine Z0s rfl rfl rfl rfl rfl rfl ?_; refine Z0x rfl rfl rfl rfl rfl ?_; refine Z06 rfl rfl rfl rfl ?_; refine Z0v (t := 163) (b' := true) rfl (decide_eq_true q3) ?_; refine Z0l Zc1 rfl rfl rfl rfl (fun wc hwc => Zbn  wc  t6) ?_; rintro _ _ ⟨rfl, rfl⟩; refine Z0x rfl rfl rfl rfl rfl ?_; refine Z07 rfl rfl rfl rfl ?_; refine Z02 ?_; refine Z01 ?_; refine Z0k (Z00 (t := 6) rfl Z0a) ?_; refine T.ret ?_; obtain rfl := ret1 H; exact Z14 rfl rfl rfl rfl (Res.tmp rfl) Z08 ⟨rfl, rfl⟩
            ·
             apply Ze5 [⟨[], false, [], Z1m (.agg #[.int .i64 r3.N, .int .i64 r3.S, .int .i64 r3.T, .slice (sb d1) n6 c7])⟩, ⟨[], false, [], Z1m (.slice (sb a4) f0 h9)⟩, ⟨[], false, [], Z1m (.slice (sb d7) (0 + k6) c83)⟩, ⟨[0, 1, 2], true, [], Z1m (.int .i64 o6)⟩, ⟨[3], false, [], Z1m (.bool (decide (o6 = 63)))⟩, ⟨[4], false, [], Z1m (.bool true)⟩, ⟨[5], false, [], Z1m (.agg #[.int .i64 r3.N, .int .i64 r3.S, .int .i64 r3.T, .slice (sb d1) n6 c7])⟩, ⟨[5], false, [], Z1m (.slice (sb a4) f0 h9)⟩, ⟨[5], false, [], Z1m (.slice (sb d9) (0 + k6) r5)⟩, ⟨[5, 6, 7, 8], true, [], Z1m (.int .i64 l4)⟩, ⟨[5, 9], false, [], Z1m (.bool (decide (l4 = 63)))⟩, ⟨[5, 10], false, [], Z1m (.bool (decide (l4 = 63)))⟩, ⟨[11], false, [], Z1m (.bool true)⟩, ⟨[12], false, [], Z1m (.agg #[.int .i64 r3.N, .int .i64 r3.S, .int .i64 r3.T, .slice (sb d1) n6 c7])⟩, ⟨[12], true, [], fun _ v e => v = .slice (sb a4) f0 h9 ∧ e = [(a4, .cells (arr (intC .i64) a8 b7).toArray 2 (0, 0))]⟩, ⟨[12], false, [], fun _ v e => ∃ (e0 : Nat), v = .slice (some ⟨e0, 0, none⟩) 1 1 ∧ e = [(some e0, .cells (arr (intC .i64) ([0]) ([])).toArray 2 (0, 0))]⟩, ⟨[12, 14, 15], false, [14], fun _ v e => ∃ (a5 : Option Nat) (d4 : Nat) (b5 : List Value) (a2 : Option Nat), v = .slice (sb a5) (f0 + 1) d4 ∧ e = [(a5, .cells (arr (intC .i64) (a8 ++ ([0])) b5).toArray 2 (0, 0)), (a2, .cells (arr (intC .i64) a8 b7).toArray 2 (0, 0))] ∧ (f0 + 1) ≤ d4 ∧ b5.length = (d4 - (f0 + 1)) * 1 ∧ (a5 = none → d4 = 0) ∧ Kept a4 a2 a5⟩, ⟨[12], false, [], Z1m (.slice (sb a9) k6 o1)⟩, ⟨[12, 13, 16, 17], true, [], Z1m (.int .i64 l5)⟩, ⟨[12, 18], false, [], Z1m (.bool (decide (l5 = 60)))⟩, ⟨[12, 19], false, [], Z1m (.bool (decide (l5 = 60)))⟩, ⟨[20], false, [], Z1m (.bool true)⟩, ⟨[21], false, [], Z1m (.agg #[.int .i64 r3.N, .int .i64 r3.S, .int .i64 r3.T, .slice (sb d1) n6 c7])⟩, ⟨[16, 21], false, [], Z1m (.slice (sb a4) f0 h9)⟩, ⟨[21], false, [], Z1m (.slice (sb a9) k6 o1)⟩, ⟨[21, 24], false, [], Z1m (.slice (Zhk (sb a9) (1 : Int).toNat o1 1) (k6 - (1 : Int).toNat) (o1 - (1 : Int).toNat))⟩, ⟨[16, 21, 22, 23, 25], true, [], Z1m (.int .i64 n8)⟩, ⟨[21, 26], false, [], Z1m (.bool (decide (n8 = 60)))⟩, ⟨[21, 27], false, [], Z1m (.bool (decide (n8 = 60)))⟩, ⟨[28], false, [], Z1m (.bool true)⟩, ⟨[29], false, [], Z1m (.agg #[.int .i64 r3.N, .int .i64 r3.S, .int .i64 r3.T, .slice (sb d1) n6 c7])⟩, ⟨[16, 29], false, [], Z1m (.slice (sb a4) f0 h9)⟩, ⟨[29], true, [], fun _ v e => v = .slice (sb a9) k6 o1 ∧ e = [(a9, .cells (arr boolC a6 d6).toArray 4 (0, 0))]⟩, ⟨[29], false, [], fun _ v e => ∃ (i8 : Nat), v = .slice (some ⟨i8, 0, none⟩) 1 1 ∧ e = [(some i8, .cells (arr boolC ([false]) ([])).toArray 4 (0, 0))]⟩, ⟨[29, 32, 33], false, [32], fun _ v e => ∃ (e9 : Option Nat) (c131 : Nat) (j2 : List Value) (e5 : Option Nat), v = .slice (sb e9) (k6 + 1) c131 ∧ e = [(e9, .cells (arr boolC (a6 ++ ([false])) j2).toArray 4 (0, 0)), (e5, .cells (arr boolC a6 d6).toArray 4 (0, 0))] ∧ (k6 + 1) ≤ c131 ∧ j2.length = (c131 - (k6 + 1)) * 1 ∧ (e9 = none → c131 = 0) ∧ Kept a9 e5 e9⟩] [125, 126, 127, 128, 129, 130, 131, 132, 133, 134, 135, 136, 137, 138, 139, 140, 141, 142, 143, 144, 145, 146, 147, 148, 149, 150, 151, 152, 153, 154, 155, 156, 157, 158, 159] 35 (HRk [[(a4, .cells (arr (intC .i64) a8 b7).toArray 2 (0, 0)), (a9, .cells (arr boolC a6 d6).toArray 4 (0, 0))], [(a4, .cells (arr (intC .i64) a8 b7).toArray 2 (0, 0)), (a9, .cells (arr boolC a6 d6).toArray 4 (0, 0))], [(a4, .cells (arr (intC .i64) a8 b7).toArray 2 (0, 0)), (a9, .cells (arr boolC a6 d6).toArray 4 (0, 0))], [(a9, .cells (arr boolC a6 d6).toArray 4 (0, 0))], [(a9, .cells (arr boolC a6 d6).toArray 4 (0, 0))], [(a9, .cells (arr boolC a6 d6).toArray 4 (0, 0))], []]) [[], [], [], [], [], [], []] [(a4, .cells (arr (intC .i64) a8 b7).toArray 2 (0, 0)), (a9, .cells (arr boolC a6 d6).toArray 4 (0, 0))] [(d9, .cells (arr boolC (a6.set r3.S.toNat false) i4).toArray 4 (0, 0)), (d7, .cells (arr boolC (a6.set r3.T.toNat true) h7).toArray 4 (0, 0)), (some b1, .cells #[.int .i64 r3.N, .int .i64 r3.S, .int .i64 r3.T, .slice (sb d1) n6 c7] 24 (0, 0)), (d1, .cells (arr Z2k r3.Arcs j8).toArray 35 (0, 0))]
             · exact Z4l
             · exact rfl
             · kernel_rfl
             · kernel_rfl
             · kernel_rfl
             · kernel_rfl
             · exact rfl
             · exact rfl
             · exact rfl
             · exact (by repeat (first | exact Z05 _ | exact Z08 | apply Pick.none | refine Z03 (by repeat (first | exact Take.head _ _ | apply Take.tail)) ?_))
             ·
              refine ⟨?_, ?_, ?_, ?_, ?_, ?_, ?_, ?_, ?_, ?_, ?_, ?_, ?_, ?_, ?_, ?_, ?_, ?_, ?_, ?_, ?_, ?_, ?_, ?_, ?_, ?_, ?_, ?_, ?_, ?_, ?_, ?_, ?_, ?_, ?_, trivial⟩
              · rintro vs es Es Hx -; refine Z0b (D := []) rfl ?_; refine Z0m rfl rfl rfl rfl Z0t mm2 rfl ?_; refine Z02 ?_; exact Z0u rfl ⟨rfl, rfl⟩ (Z05 _) rfl
              · rintro vs es Es Hx -; refine Z0b (D := []) rfl ?_; refine Z06 rfl rfl rfl rfl ?_; refine Z02 ?_; exact Z0u rfl ⟨rfl, rfl⟩ (Z05 _) rfl
              · rintro vs es Es Hx -; refine Z0b (D := []) rfl ?_; refine Z06 rfl rfl rfl rfl ?_; refine Z02 ?_; exact Z0u rfl ⟨rfl, rfl⟩ (Z05 _) rfl
              · rintro vs es Es Hx hb ⟨⟨i2, l0⟩, ⟨i5, l8⟩, ⟨i1, l6⟩, -⟩ hHR; obtain rfl : hb = [(a4, .cells (arr (intC .i64) a8 b7).toArray 2 (0, 0)), (a9, .cells (arr boolC a6 d6).toArray 4 (0, 0))] := hHR; refine Z0b (D := [(125, vs 0), (126, vs 1), (127, vs 2)]) rfl ?_; rw [i2, i5, i1]; refine Z0l Z0w rfl rfl rfl rfl (fun wc hwc => Z12 (n0 := r3) (f1 := a8) (s2 := (a6.set r3.T.toNat true)) wc (hwc.rs (f := Z2k) (s := 3) (xs := r3.Arcs) (j := j8) (fun _ => rfl) mm5 k7 e6 e7) (hwc.rs (f := (intC .i64)) (s := 1) (xs := a8) (j := b7) (fun _ => rfl) mm0 d0 e2 e3) (hwc.rs (f := boolC) (s := 1) (xs := (a6.set r3.T.toNat true)) (j := h7) (fun _ => rfl) mm3 (List.length_set.trans (Z3h e1)) o2 o4) p2) ?_; rintro _ _ ⟨rfl, rfl⟩; refine Z02 ?_; exact Z7w (hb' := [(a4, .cells (arr (intC .i64) a8 b7).toArray 2 (0, 0)), (a9, .cells (arr boolC a6 d6).toArray 4 (0, 0))]) rfl ⟨rfl, rfl⟩ rfl (by repeat (first | exact Z05 _ | exact Z08 | apply Pick.none | refine Z03 (by repeat (first | exact Take.head _ _ | apply Take.tail)) ?_)) (by show [(125, vs 0), (126, vs 1), (127, vs 2)] = _; rw [i2, i5, i1])
              · rintro vs es Es Hx ⟨⟨i9, n5⟩, -⟩; refine Z0b (D := [(128, vs 3)]) rfl ?_; rw [i9]; refine Z0s rfl rfl rfl rfl rfl rfl ?_; refine Z02 ?_; exact Z0u rfl ⟨rfl, rfl⟩ (Z05 _) (by show [(128, vs 3)] = _; rw [i9])
              · rintro vs es Es Hx ⟨⟨i6, l9⟩, -⟩; refine Z0b (D := [(129, vs 4)]) rfl ?_; rw [i6]; refine Z06 rfl rfl rfl rfl ?_; refine Z0v (t := 130) (b' := true) rfl (decide_eq_true p1) ?_; refine Z02 ?_; exact Z8o rfl ⟨rfl, rfl⟩ (Z05 _) (by show [(129, vs 4)] = _; rw [i6])
              · rintro vs es Es Hx ⟨⟨c9, e8⟩, -⟩; refine Z0b (D := [(130, vs 5)]) rfl ?_; rw [c9]; refine Z0m rfl rfl rfl rfl Z0t mm2 rfl ?_; refine Z02 ?_; exact Z0u rfl ⟨rfl, rfl⟩ (Z05 _) (by show [(130, vs 5)] = _; rw [c9])
              · rintro vs es Es Hx ⟨⟨c9, e8⟩, -⟩; refine Z0b (D := [(130, vs 5)]) rfl ?_; rw [c9]; refine Z06 rfl rfl rfl rfl ?_; refine Z02 ?_; exact Z0u rfl ⟨rfl, rfl⟩ (Z05 _) (by show [(130, vs 5)] = _; rw [c9])
              · rintro vs es Es Hx ⟨⟨c9, e8⟩, -⟩; refine Z0b (D := [(130, vs 5)]) rfl ?_; rw [c9]; refine Z06 rfl rfl rfl rfl ?_; refine Z02 ?_; exact Z0u rfl ⟨rfl, rfl⟩ (Z05 _) (by show [(130, vs 5)] = _; rw [c9])
              · rintro vs es Es Hx hb ⟨⟨c9, e8⟩, ⟨h3, j0⟩, ⟨j1, l7⟩, ⟨l1, n9⟩, -⟩ hHR; obtain rfl : hb = [(a4, .cells (arr (intC .i64) a8 b7).toArray 2 (0, 0)), (a9, .cells (arr boolC a6 d6).toArray 4 (0, 0))] := hHR; refine Z0b (D := [(130, vs 5), (131, vs 6), (132, vs 7), (133, vs 8)]) rfl ?_; rw [c9, h3, j1, l1]; refine Z0l Z0w rfl rfl rfl rfl (fun wc hwc => Z12 (n0 := r3) (f1 := a8) (s2 := (a6.set r3.S.toNat false)) wc (hwc.rs (f := Z2k) (s := 3) (xs := r3.Arcs) (j := j8) (fun _ => rfl) mm5 k7 e6 e7) (hwc.rs (f := (intC .i64)) (s := 1) (xs := a8) (j := b7) (fun _ => rfl) mm0 d0 e2 e3) (hwc.rs (f := boolC) (s := 1) (xs := (a6.set r3.S.toNat false)) (j := i4) (fun _ => rfl) mm2 (List.length_set.trans (Z3h e1)) o9 p0) p5) ?_; rintro _ _ ⟨rfl, rfl⟩; refine Z02 ?_; exact Z7w (hb' := [(a4, .cells (arr (intC .i64) a8 b7).toArray 2 (0, 0)), (a9, .cells (arr boolC a6 d6).toArray 4 (0, 0))]) rfl ⟨rfl, rfl⟩ rfl (by repeat (first | exact Z05 _ | exact Z08 | apply Pick.none | refine Z03 (by repeat (first | exact Take.head _ _ | apply Take.tail)) ?_)) (by show [(130, vs 5), (131, vs 6), (132, vs 7), (133, vs 8)] = _; rw [c9, h3, j1, l1])
              · rintro vs es Es Hx ⟨⟨c9, e8⟩, ⟨l3, o0⟩, -⟩; refine Z0b (D := [(130, vs 5), (134, vs 9)]) rfl ?_; rw [c9, l3]; refine Z0s rfl rfl rfl rfl rfl rfl ?_; refine Z02 ?_; exact Z0u rfl ⟨rfl, rfl⟩ (Z05 _) (by show [(130, vs 5), (134, vs 9)] = _; rw [c9, l3])
              · rintro vs es Es Hx ⟨⟨c9, e8⟩, ⟨f2, j3⟩, -⟩; refine Z0b (D := [(130, vs 5), (135, vs 10)]) rfl ?_; rw [c9, f2]; refine Z0x rfl rfl rfl rfl rfl ?_; refine Z02 ?_; exact Z0u rfl ⟨rfl, rfl⟩ (Z05 _) (by show [(130, vs 5), (135, vs 10)] = _; rw [c9, f2])
              · rintro vs es Es Hx ⟨⟨f3, j4⟩, -⟩; refine Z0b (D := [(136, vs 11)]) rfl ?_; rw [f3]; refine Z06 rfl rfl rfl rfl ?_; refine Z0v (t := 137) (b' := true) rfl (decide_eq_true p3) ?_; refine Z02 ?_; exact Z8o rfl ⟨rfl, rfl⟩ (Z05 _) (by show [(136, vs 11)] = _; rw [f3])
              · rintro vs es Es Hx ⟨⟨a3, b6⟩, -⟩; refine Z0b (D := [(137, vs 12)]) rfl ?_; rw [a3]; refine Z0m rfl rfl rfl rfl Z0t mm2 rfl ?_; refine Z02 ?_; exact Z0u rfl ⟨rfl, rfl⟩ (Z05 _) (by show [(137, vs 12)] = _; rw [a3])
              · rintro vs es Es Hx hb ⟨⟨a3, b6⟩, -⟩ hHR; obtain rfl : hb = [(a4, .cells (arr (intC .i64) a8 b7).toArray 2 (0, 0)), (a9, .cells (arr boolC a6 d6).toArray 4 (0, 0))] := hHR; refine Z0b (D := [(137, vs 12)]) rfl ?_; rw [a3]; refine Z06 rfl rfl rfl rfl ?_; refine Z02 ?_; exact Zfg (hb' := [(a9, .cells (arr boolC a6 d6).toArray 4 (0, 0))]) (e' := [(a4, .cells (arr (intC .i64) a8 b7).toArray 2 (0, 0))]) rfl ⟨rfl, rfl⟩ rfl (by repeat (first | exact Z05 _ | exact Z08 | apply Pick.none | refine Z03 (by repeat (first | exact Take.head _ _ | apply Take.tail)) ?_)) (by show [(137, vs 12)] = _; rw [a3])
              · rintro vs es Es Hx ⟨⟨a3, b6⟩, -⟩; refine Z0b (D := [(137, vs 12)]) rfl ?_; rw [a3]; refine Z0n [.int .i64 0] [0] rfl rfl rfl rfl Z1a Z1h Z3x rfl rfl (by simp only [Z1n, setCells, Value.cells, List.toList_toArray, List.getD_cons_zero, List.getD_cons_succ, List.set_cons_zero, List.set_cons_succ]; rfl) (by kernel_rfl) ?_; intro e0; refine Z02 ?_; exact Z0u rfl ⟨e0, rfl, rfl⟩ (by repeat (first | exact Z05 _ | exact Z08 | apply Pick.none | refine Z03 (by repeat (first | exact Take.head _ _ | apply Take.tail)) ?_)) (by show [(137, vs 12)] = _; rw [a3])
              · rintro vs es Es Hx ⟨⟨a3, b6⟩, ⟨f4, j5⟩, ⟨e0, f5, f6⟩, -⟩; refine Z0b (D := [(137, vs 12), (139, vs 14), (140, vs 15)]) rfl ?_; rw [a3, f4, f5]; refine Z16 (H := [(d9, .cells (arr boolC (a6.set r3.S.toNat false) i4).toArray 4 (0, 0)), (d7, .cells (arr boolC (a6.set r3.T.toNat true) h7).toArray 4 (0, 0)), (some b1, .cells #[.int .i64 r3.N, .int .i64 r3.S, .int .i64 r3.T, .slice (sb d1) n6 c7] 24 (0, 0)), (d1, .cells (arr Z2k r3.Arcs j8).toArray 35 (0, 0))] ++ ([(a4, .cells (arr (intC .i64) a8 b7).toArray 2 (0, 0)), (some e0, .cells (arr (intC .i64) ([0]) ([])).toArray 2 (0, 0))] ++ Hx)) (by show _ ++ ((es 12 ++ (es 14 ++ (es 15 ++ ([])))) ++ _) = _; rw [b6, j5, f6]; rfl) ?_; refine Zdf (f := (intC .i64)) (s := 1) (xs := a8) (ob := a4) (j := b7) (ys := [0]) (fun _ => rfl) (fun _ => rfl) Z4e p7 rfl rfl rfl rfl rfl tk4 d0 e2 n7 e3 (fun wc hwc => (hwc.rs (f := (intC .i64)) (s := 1) (xs := [0]) (j := ([])) (fun _ => rfl) mm5 rfl (Nat.le_refl _) Z1g)) ?_; intro a5 d4 b5 c3 d8 c4 a2 d3; refine Z02 ?_; exact Z0u rfl ⟨a5, d4, b5, a2, rfl, rfl, c3, d8, c4, d3⟩ (by show Pick (_ ++ (_ ++ ((es 12 ++ (es 15 ++ ([]))) ++ _))) _; rw [b6, f6]; exact (by repeat (first | exact Z05 _ | exact Z08 | apply Pick.none | refine Z03 (by repeat (first | exact Take.head _ _ | apply Take.tail)) ?_))) (by show [(137, vs 12), (139, vs 14), (140, vs 15)] = _; rw [a3, f4, f5])
              · rintro vs es Es Hx ⟨⟨a3, b6⟩, -⟩; refine Z0b (D := [(137, vs 12)]) rfl ?_; rw [a3]; refine Z06 rfl rfl rfl rfl ?_; refine Z02 ?_; exact Z0u rfl ⟨rfl, rfl⟩ (Z05 _) (by show [(137, vs 12)] = _; rw [a3])
              · rintro vs es Es Hx hb ⟨⟨a3, b6⟩, ⟨f7, f8⟩, ⟨a5, d4, b5, a2, b8, b9, c3, d8, c4, d3⟩, ⟨f9, g0⟩, -⟩ hHR; obtain rfl : hb = [(a9, .cells (arr boolC a6 d6).toArray 4 (0, 0))] := hHR; refine Z0b (D := [(137, vs 12), (138, vs 13), (141, vs 16), (142, vs 17)]) rfl ?_; rw [a3, f7, b8, f9]; refine Z16 (H := [(a9, .cells (arr boolC a6 d6).toArray 4 (0, 0))] ++ ([(d9, .cells (arr boolC (a6.set r3.S.toNat false) i4).toArray 4 (0, 0)), (d7, .cells (arr boolC (a6.set r3.T.toNat true) h7).toArray 4 (0, 0)), (some b1, .cells #[.int .i64 r3.N, .int .i64 r3.S, .int .i64 r3.T, .slice (sb d1) n6 c7] 24 (0, 0)), (d1, .cells (arr Z2k r3.Arcs j8).toArray 35 (0, 0))] ++ ([(a5, .cells (arr (intC .i64) (a8 ++ ([0])) b5).toArray 2 (0, 0)), (a2, .cells (arr (intC .i64) a8 b7).toArray 2 (0, 0))] ++ Hx))) (by show _ ++ (_ ++ ((es 12 ++ (es 13 ++ (es 16 ++ (es 17 ++ ([]))))) ++ _)) = _; rw [b6, f8, b9, g0]; rfl) ?_; refine Z0l Z0w rfl rfl rfl rfl (fun wc hwc => Z12 (n0 := r3) (f1 := (a8 ++ ([0]))) (s2 := a6) wc (hwc.rs (f := Z2k) (s := 3) (xs := r3.Arcs) (j := j8) (fun _ => rfl) mm4 k7 e6 e7) (hwc.rs (f := (intC .i64)) (s := 1) (xs := (a8 ++ ([0]))) (j := b5) (fun _ => rfl) mm5 (Z7o d0 rfl) c3 c4) (hwc.rs (f := boolC) (s := 1) (xs := a6) (j := d6) (fun _ => rfl) mm0 e1 k8 k9) p8) ?_; rintro _ _ ⟨rfl, rfl⟩; refine Z02 ?_; exact Z7w (hb' := [(a9, .cells (arr boolC a6 d6).toArray 4 (0, 0))]) rfl ⟨rfl, rfl⟩ rfl (by show Pick (_ ++ (_ ++ ((es 12 ++ (es 13 ++ (es 16 ++ (es 17 ++ ([]))))) ++ _))) _; rw [b6, f8, b9, g0]; exact (by repeat (first | exact Z05 _ | exact Z08 | apply Pick.none | refine Z03 (by repeat (first | exact Take.head _ _ | apply Take.tail)) ?_))) (by show [(137, vs 12), (138, vs 13), (141, vs 16), (142, vs 17)] = _; rw [a3, f7, b8, f9])
              · rintro vs es Es Hx ⟨⟨a3, b6⟩, ⟨g1, j6⟩, -⟩; refine Z0b (D := [(137, vs 12), (143, vs 18)]) rfl ?_; rw [a3, g1]; refine Z0s rfl rfl rfl rfl rfl rfl ?_; refine Z02 ?_; exact Z0u rfl ⟨rfl, rfl⟩ (Z05 _) (by show [(137, vs 12), (143, vs 18)] = _; rw [a3, g1])
              · rintro vs es Es Hx ⟨⟨a3, b6⟩, ⟨g2, j7⟩, -⟩; refine Z0b (D := [(137, vs 12), (144, vs 19)]) rfl ?_; rw [a3, g2]; refine Z0x rfl rfl rfl rfl rfl ?_; refine Z02 ?_; exact Z0u rfl ⟨rfl, rfl⟩ (Z05 _) (by show [(137, vs 12), (144, vs 19)] = _; rw [a3, g2])
              · rintro vs es Es Hx ⟨⟨g3, j9⟩, -⟩; refine Z0b (D := [(145, vs 20)]) rfl ?_; rw [g3]; refine Z06 rfl rfl rfl rfl ?_; refine Z0v (t := 146) (b' := true) rfl (decide_eq_true p6) ?_; refine Z02 ?_; exact Z8o rfl ⟨rfl, rfl⟩ (Z05 _) (by show [(145, vs 20)] = _; rw [g3])
              · rintro vs es Es Hx ⟨⟨a7, c8⟩, -⟩; refine Z0b (D := [(146, vs 21)]) rfl ?_; rw [a7]; refine Z0m rfl rfl rfl rfl Z0t mm2 rfl ?_; refine Z02 ?_; exact Z0u rfl ⟨rfl, rfl⟩ (Z05 _) (by show [(146, vs 21)] = _; rw [a7])
              · rintro vs es Es Hx ⟨⟨a5, d4, b5, a2, b8, b9, c3, d8, c4, d3⟩, ⟨a7, c8⟩, -⟩; refine Z0b (D := [(141, vs 16), (146, vs 21)]) rfl ?_; rw [b8, a7]; refine Z16 (H := [(d9, .cells (arr boolC (a6.set r3.S.toNat false) i4).toArray 4 (0, 0)), (d7, .cells (arr boolC (a6.set r3.T.toNat true) h7).toArray 4 (0, 0)), (some b1, .cells #[.int .i64 r3.N, .int .i64 r3.S, .int .i64 r3.T, .slice (sb d1) n6 c7] 24 (0, 0)), (d1, .cells (arr Z2k r3.Arcs j8).toArray 35 (0, 0))] ++ ([(a5, .cells (arr (intC .i64) (a8 ++ ([0])) b5).toArray 2 (0, 0)), (a2, .cells (arr (intC .i64) a8 b7).toArray 2 (0, 0))] ++ Hx)) (by show _ ++ ((es 16 ++ (es 21 ++ ([]))) ++ _) = _; rw [b9, c8]; rfl) ?_; refine Z06 rfl rfl rfl rfl ?_; refine Z02 ?_; exact Z0u rfl ⟨rfl, rfl⟩ (by show Pick (_ ++ (_ ++ ((es 16 ++ (es 21 ++ ([]))) ++ _))) _; rw [b9, c8]; exact (by repeat (first | exact Z05 _ | exact Z08 | apply Pick.none | refine Z03 (by repeat (first | exact Take.head _ _ | apply Take.tail)) ?_))) (by show [(141, vs 16), (146, vs 21)] = _; rw [b8, a7])
              · rintro vs es Es Hx ⟨⟨a7, c8⟩, -⟩; refine Z0b (D := [(146, vs 21)]) rfl ?_; rw [a7]; refine Z06 rfl rfl rfl rfl ?_; refine Z02 ?_; exact Z0u rfl ⟨rfl, rfl⟩ (Z05 _) (by show [(146, vs 21)] = _; rw [a7])
              · rintro vs es Es Hx ⟨⟨a7, c8⟩, ⟨g4, k1⟩, -⟩; refine Z0b (D := [(146, vs 21), (149, vs 24)]) rfl ?_; rw [a7, g4]; refine Zjy (xs := a6) e1 p4 rfl rfl rfl rfl rfl Z1z Z1q ?_; refine Z02 ?_; exact Z0u rfl ⟨rfl, rfl⟩ (Z05 _) (by show [(146, vs 21), (149, vs 24)] = _; rw [a7, g4])
              · rintro vs es Es Hx hb ⟨⟨a5, d4, b5, a2, b8, b9, c3, d8, c4, d3⟩, ⟨a7, c8⟩, ⟨g5, h4⟩, ⟨g6, h5⟩, ⟨g7, h6⟩, -⟩ hHR; obtain rfl : hb = [(a9, .cells (arr boolC a6 d6).toArray 4 (0, 0))] := hHR; refine Z0b (D := [(141, vs 16), (146, vs 21), (147, vs 22), (148, vs 23), (150, vs 25)]) rfl ?_; rw [b8, a7, g5, g6, g7]; refine Z16 (H := [(a9, .cells (arr boolC a6 d6).toArray 4 (0, 0))] ++ ([(d9, .cells (arr boolC (a6.set r3.S.toNat false) i4).toArray 4 (0, 0)), (d7, .cells (arr boolC (a6.set r3.T.toNat true) h7).toArray 4 (0, 0)), (some b1, .cells #[.int .i64 r3.N, .int .i64 r3.S, .int .i64 r3.T, .slice (sb d1) n6 c7] 24 (0, 0)), (d1, .cells (arr Z2k r3.Arcs j8).toArray 35 (0, 0))] ++ ([(a5, .cells (arr (intC .i64) (a8 ++ ([0])) b5).toArray 2 (0, 0)), (a2, .cells (arr (intC .i64) a8 b7).toArray 2 (0, 0))] ++ Hx))) (by show _ ++ (_ ++ ((es 16 ++ (es 21 ++ (es 22 ++ (es 23 ++ (es 25 ++ ([])))))) ++ _)) = _; rw [b9, c8, h4, h5, h6]; rfl) ?_; refine Z0l Z0w rfl rfl rfl rfl (fun wc hwc => Z12 (n0 := r3) (f1 := a8) (s2 := (a6.drop (1 : Int).toNat)) wc (hwc.rs (f := Z2k) (s := 3) (xs := r3.Arcs) (j := j8) (fun _ => rfl) mm4 k7 e6 e7) (d3.rs (f := (intC .i64)) (s := 1) (j := b7) (j' := b5) hwc (fun _ => rfl) mm5 mm6 (Z7o d0 rfl) c3 c4 d0 e2 e3) (RS.drop (hwc.rs (f := boolC) (s := 1) (xs := a6) (j := d6) (fun _ => rfl) mm0 e1 k8 k9) p4) q2) ?_; rintro _ _ ⟨rfl, rfl⟩; refine Z02 ?_; exact Z7w (hb' := [(a9, .cells (arr boolC a6 d6).toArray 4 (0, 0))]) rfl ⟨rfl, rfl⟩ rfl (by show Pick (_ ++ (_ ++ ((es 16 ++ (es 21 ++ (es 22 ++ (es 23 ++ (es 25 ++ ([])))))) ++ _))) _; rw [b9, c8, h4, h5, h6]; exact (by repeat (first | exact Z05 _ | exact Z08 | apply Pick.none | refine Z03 (by repeat (first | exact Take.head _ _ | apply Take.tail)) ?_))) (by show [(141, vs 16), (146, vs 21), (147, vs 22), (148, vs 23), (150, vs 25)] = _; rw [b8, a7, g5, g6, g7])
              · rintro vs es Es Hx ⟨⟨a7, c8⟩, ⟨g8, k2⟩, -⟩; refine Z0b (D := [(146, vs 21), (151, vs 26)]) rfl ?_; rw [a7, g8]; refine Z0s rfl rfl rfl rfl rfl rfl ?_; refine Z02 ?_; exact Z0u rfl ⟨rfl, rfl⟩ (Z05 _) (by show [(146, vs 21), (151, vs 26)] = _; rw [a7, g8])
              · rintro vs es Es Hx ⟨⟨a7, c8⟩, ⟨g9, k3⟩, -⟩; refine Z0b (D := [(146, vs 21), (152, vs 27)]) rfl ?_; rw [a7, g9]; refine Z0x rfl rfl rfl rfl rfl ?_; refine Z02 ?_; exact Z0u rfl ⟨rfl, rfl⟩ (Z05 _) (by show [(146, vs 21), (152, vs 27)] = _; rw [a7, g9])
              · rintro vs es Es Hx ⟨⟨h0, k4⟩, -⟩; refine Z0b (D := [(153, vs 28)]) rfl ?_; rw [h0]; refine Z06 rfl rfl rfl rfl ?_; refine Z0v (t := 154) (b' := true) rfl (decide_eq_true p9) ?_; refine Z02 ?_; exact Z8o rfl ⟨rfl, rfl⟩ (Z05 _) (by show [(153, vs 28)] = _; rw [h0])
              · rintro vs es Es Hx ⟨⟨b0, d5⟩, -⟩; refine Z0b (D := [(154, vs 29)]) rfl ?_; rw [b0]; refine Z0m rfl rfl rfl rfl Z0t mm2 rfl ?_; refine Z02 ?_; exact Z0u rfl ⟨rfl, rfl⟩ (Z05 _) (by show [(154, vs 29)] = _; rw [b0])
              · rintro vs es Es Hx ⟨⟨a5, d4, b5, a2, b8, b9, c3, d8, c4, d3⟩, ⟨b0, d5⟩, -⟩; refine Z0b (D := [(141, vs 16), (154, vs 29)]) rfl ?_; rw [b8, b0]; refine Z16 (H := [(d9, .cells (arr boolC (a6.set r3.S.toNat false) i4).toArray 4 (0, 0)), (d7, .cells (arr boolC (a6.set r3.T.toNat true) h7).toArray 4 (0, 0)), (some b1, .cells #[.int .i64 r3.N, .int .i64 r3.S, .int .i64 r3.T, .slice (sb d1) n6 c7] 24 (0, 0)), (d1, .cells (arr Z2k r3.Arcs j8).toArray 35 (0, 0))] ++ ([(a5, .cells (arr (intC .i64) (a8 ++ ([0])) b5).toArray 2 (0, 0)), (a2, .cells (arr (intC .i64) a8 b7).toArray 2 (0, 0))] ++ Hx)) (by show _ ++ ((es 16 ++ (es 29 ++ ([]))) ++ _) = _; rw [b9, d5]; rfl) ?_; refine Z06 rfl rfl rfl rfl ?_; refine Z02 ?_; exact Z0u rfl ⟨rfl, rfl⟩ (by show Pick (_ ++ (_ ++ ((es 16 ++ (es 29 ++ ([]))) ++ _))) _; rw [b9, d5]; exact (by repeat (first | exact Z05 _ | exact Z08 | apply Pick.none | refine Z03 (by repeat (first | exact Take.head _ _ | apply Take.tail)) ?_))) (by show [(141, vs 16), (154, vs 29)] = _; rw [b8, b0])
              · rintro vs es Es Hx hb ⟨⟨b0, d5⟩, -⟩ hHR; obtain rfl : hb = [(a9, .cells (arr boolC a6 d6).toArray 4 (0, 0))] := hHR; refine Z0b (D := [(154, vs 29)]) rfl ?_; rw [b0]; refine Z06 rfl rfl rfl rfl ?_; refine Z02 ?_; exact Zfg (hb' := []) (e' := [(a9, .cells (arr boolC a6 d6).toArray 4 (0, 0))]) rfl ⟨rfl, rfl⟩ rfl (by repeat (first | exact Z05 _ | exact Z08 | apply Pick.none | refine Z03 (by repeat (first | exact Take.head _ _ | apply Take.tail)) ?_)) (by show [(154, vs 29)] = _; rw [b0])
              · rintro vs es Es Hx ⟨⟨b0, d5⟩, -⟩; refine Z0b (D := [(154, vs 29)]) rfl ?_; rw [b0]; refine Z0n [.bool false] [0] rfl rfl rfl rfl Z1z Z1q Z77 rfl rfl (by simp only [Z1n, setCells, Value.cells, List.toList_toArray, List.getD_cons_zero, List.getD_cons_succ, List.set_cons_zero, List.set_cons_succ]; rfl) (by kernel_rfl) ?_; intro i8; refine Z02 ?_; exact Z0u rfl ⟨i8, rfl, rfl⟩ (by repeat (first | exact Z05 _ | exact Z08 | apply Pick.none | refine Z03 (by repeat (first | exact Take.head _ _ | apply Take.tail)) ?_)) (by show [(154, vs 29)] = _; rw [b0])
              · rintro vs es Es Hx ⟨⟨b0, d5⟩, ⟨h1, k5⟩, ⟨i8, h2, h8⟩, -⟩; refine Z0b (D := [(154, vs 29), (157, vs 32), (158, vs 33)]) rfl ?_; rw [b0, h1, h2]; refine Z16 (H := [(d9, .cells (arr boolC (a6.set r3.S.toNat false) i4).toArray 4 (0, 0)), (d7, .cells (arr boolC (a6.set r3.T.toNat true) h7).toArray 4 (0, 0)), (some b1, .cells #[.int .i64 r3.N, .int .i64 r3.S, .int .i64 r3.T, .slice (sb d1) n6 c7] 24 (0, 0)), (d1, .cells (arr Z2k r3.Arcs j8).toArray 35 (0, 0))] ++ ([(a9, .cells (arr boolC a6 d6).toArray 4 (0, 0)), (some i8, .cells (arr boolC ([false]) ([])).toArray 4 (0, 0))] ++ Hx)) (by show _ ++ ((es 29 ++ (es 32 ++ (es 33 ++ ([])))) ++ _) = _; rw [d5, k5, h8]; rfl) ?_; refine Zdf (f := boolC) (s := 1) (xs := a6) (ob := a9) (j := d6) (ys := [false]) (fun _ => rfl) (fun _ => rfl) Z5f q9 rfl rfl rfl rfl rfl tk4 e1 k8 q5 k9 (fun wc hwc => (hwc.rs (f := boolC) (s := 1) (xs := [false]) (j := ([])) (fun _ => rfl) mm5 rfl (Nat.le_refl _) Z1g)) ?_; intro e9 c131 j2 m2 o7 m3 e5 o8; refine Z02 ?_; exact Z0u rfl ⟨e9, c131, j2, e5, rfl, rfl, m2, o7, m3, o8⟩ (by show Pick (_ ++ (_ ++ ((es 29 ++ (es 33 ++ ([]))) ++ _))) _; rw [d5, h8]; exact (by repeat (first | exact Z05 _ | exact Z08 | apply Pick.none | refine Z03 (by repeat (first | exact Take.head _ _ | apply Take.tail)) ?_))) (by show [(154, vs 29), (157, vs 32), (158, vs 33)] = _; rw [b0, h1, h2])
             · rintro vs es hb ⟨⟨i2, l0⟩, ⟨i5, l8⟩, ⟨i1, l6⟩, ⟨i9, n5⟩, ⟨i6, l9⟩, ⟨c9, e8⟩, ⟨h3, j0⟩, ⟨j1, l7⟩, ⟨l1, n9⟩, ⟨l3, o0⟩, ⟨f2, j3⟩, ⟨f3, j4⟩, ⟨a3, b6⟩, ⟨f7, f8⟩, ⟨f4, j5⟩, ⟨e0, f5, f6⟩, ⟨a5, d4, b5, a2, b8, b9, c3, d8, c4, d3⟩, ⟨f9, g0⟩, ⟨g1, j6⟩, ⟨g2, j7⟩, ⟨g3, j9⟩, ⟨a7, c8⟩, ⟨g5, h4⟩, ⟨g6, h5⟩, ⟨g4, k1⟩, ⟨g7, h6⟩, ⟨g8, k2⟩, ⟨g9, k3⟩, ⟨h0, k4⟩, ⟨b0, d5⟩, ⟨m4, m5⟩, ⟨m6, m7⟩, ⟨h1, k5⟩, ⟨i8, h2, h8⟩, ⟨e9, c131, j2, e5, m8, m9, m2, o7, m3, o8⟩, -⟩ hHR; obtain rfl : hb = [] := hHR; refine Z0b (D := [(125, vs 0), (126, vs 1), (127, vs 2), (128, vs 3), (129, vs 4), (130, vs 5), (131, vs 6), (132, vs 7), (133, vs 8), (134, vs 9), (135, vs 10), (136, vs 11), (137, vs 12), (138, vs 13), (139, vs 14), (140, vs 15), (141, vs 16), (142, vs 17), (143, vs 18), (144, vs 19), (145, vs 20), (146, vs 21), (147, vs 22), (148, vs 23), (149, vs 24), (150, vs 25), (151, vs 26), (152, vs 27), (153, vs 28), (154, vs 29), (155, vs 30), (156, vs 31), (157, vs 32), (158, vs 33), (159, vs 34)]) rfl ?_; refine Z16 (H := [(d9, .cells (arr boolC (a6.set r3.S.toNat false) i4).toArray 4 (0, 0)), (d7, .cells (arr boolC (a6.set r3.T.toNat true) h7).toArray 4 (0, 0)), (some b1, .cells #[.int .i64 r3.N, .int .i64 r3.S, .int .i64 r3.T, .slice (sb d1) n6 c7] 24 (0, 0)), (d1, .cells (arr Z2k r3.Arcs j8).toArray 35 (0, 0)), (some e0, .cells (arr (intC .i64) ([0]) ([])).toArray 2 (0, 0)), (a5, .cells (arr (intC .i64) (a8 ++ ([0])) b5).toArray 2 (0, 0)), (a2, .cells (arr (intC .i64) a8 b7).toArray 2 (0, 0)), (some i8, .cells (arr boolC ([false]) ([])).toArray 4 (0, 0)), (e9, .cells (arr boolC (a6 ++ ([false])) j2).toArray 4 (0, 0)), (e5, .cells (arr boolC a6 d6).toArray 4 (0, 0))]) (by show _ ++ (_ ++ (es 0 ++ (es 1 ++ (es 2 ++ (es 3 ++ (es 4 ++ (es 5 ++ (es 6 ++ (es 7 ++ (es 8 ++ (es 9 ++ (es 10 ++ (es 11 ++ (es 12 ++ (es 13 ++ (es 15 ++ (es 16 ++ (es 17 ++ (es 18 ++ (es 19 ++ (es 20 ++ (es 21 ++ (es 22 ++ (es 23 ++ (es 24 ++ (es 25 ++ (es 26 ++ (es 27 ++ (es 28 ++ (es 29 ++ (es 30 ++ (es 31 ++ (es 33 ++ (es 34 ++ ([]))))))))))))))))))))))))))))))))))) = _; rw [l0, l8, l6, n5, l9, e8, j0, l7, n9, o0, j3, j4, b6, f8, f6, b9, g0, j6, j7, j9, c8, h4, h5, k1, h6, k2, k3, k4, d5, m5, m7, h8, m9]; rfl) ?_; rw [i2, i5, i1, i9, i6, c9, h3, j1, l1, l3, f2, f3, a3, f7, f4, f5, b8, f9, g1, g2, g3, a7, g5, g6, g4, g7, g8, g9, h0, b0, m4, m6, h1, h2, m8]; clear m8 h2 h1 m6 m4 b0 h0 g9 g8 g7 g4 g6 g5 a7 g3 g2 g1 f9 b8 f5 f4 f7 a3 f3 f2 l3 l1 j1 h3 c9 i6 i9 i1 i5 i2 l0 l8 l6 n5 l9 e8 j0 l7 n9 o0 j3 j4 b6 f8 j5 f6 b9 g0 j6 j7 j9 c8 h4 h5 k1 h6 k2 k3 k4 d5 m5 m7 k5 h8 m9; refine Z0l Z0w rfl rfl rfl rfl (fun wc hwc => Z12 (n0 := r3) (f1 := a8) (s2 := (a6 ++ ([false]))) wc (hwc.rs (f := Z2k) (s := 3) (xs := r3.Arcs) (j := j8) (fun _ => rfl) mm3 k7 e6 e7) (d3.rs (f := (intC .i64)) (s := 1) (j := b7) (j' := b5) hwc (fun _ => rfl) mm5 mm6 (Z7o d0 rfl) c3 c4 d0 e2 e3) (hwc.rs (f := boolC) (s := 1) (xs := (a6 ++ ([false]))) (j := j2) (fun _ => rfl) mm8 (Z7o e1 rfl) m2 m3) r1) ?_; rintro _ _ ⟨rfl, rfl⟩; refine Z0s rfl rfl rfl rfl rfl rfl ?_; refine Z0x rfl rfl rfl rfl rfl ?_; refine Z06 rfl rfl rfl rfl ?_; refine Z0v (t := 163) (b' := false) rfl (decide_eq_false q3) ?_; refine Z0c rfl rfl rfl rfl ?_; refine Z10 rfl rfl rfl rfl rfl ?_; refine Z07 rfl rfl rfl rfl ?_; refine Z02 ?_; refine Z01 ?_; refine Z0k (Z00 (t := 6) rfl Z0a) ?_; refine T.ret ?_; obtain rfl := ret1 H; exact Z14 rfl rfl rfl rfl (Res.tmp rfl) Z08 ⟨rfl, rfl⟩
           ·
            apply Ze5 [⟨[], false, [], Z1m (.agg #[.int .i64 r3.N, .int .i64 r3.S, .int .i64 r3.T, .slice (sb d1) n6 c7])⟩, ⟨[], false, [], Z1m (.slice (sb a4) f0 h9)⟩, ⟨[], false, [], Z1m (.slice (sb d7) (0 + k6) c83)⟩, ⟨[0, 1, 2], true, [], Z1m (.int .i64 o6)⟩, ⟨[3], false, [], Z1m (.bool (decide (o6 = 63)))⟩, ⟨[4], false, [], Z1m (.bool true)⟩, ⟨[5], false, [], Z1m (.agg #[.int .i64 r3.N, .int .i64 r3.S, .int .i64 r3.T, .slice (sb d1) n6 c7])⟩, ⟨[5], false, [], Z1m (.slice (sb a4) f0 h9)⟩, ⟨[5], false, [], Z1m (.slice (sb d9) (0 + k6) r5)⟩, ⟨[5, 6, 7, 8], true, [], Z1m (.int .i64 l4)⟩, ⟨[5, 9], false, [], Z1m (.bool (decide (l4 = 63)))⟩, ⟨[5, 10], false, [], Z1m (.bool (decide (l4 = 63)))⟩, ⟨[11], false, [], Z1m (.bool true)⟩, ⟨[12], false, [], Z1m (.agg #[.int .i64 r3.N, .int .i64 r3.S, .int .i64 r3.T, .slice (sb d1) n6 c7])⟩, ⟨[12], true, [], fun _ v e => v = .slice (sb a4) f0 h9 ∧ e = [(a4, .cells (arr (intC .i64) a8 b7).toArray 2 (0, 0))]⟩, ⟨[12], false, [], fun _ v e => ∃ (e0 : Nat), v = .slice (some ⟨e0, 0, none⟩) 1 1 ∧ e = [(some e0, .cells (arr (intC .i64) ([0]) ([])).toArray 2 (0, 0))]⟩, ⟨[12, 14, 15], false, [14], fun _ v e => ∃ (a5 : Option Nat) (d4 : Nat) (b5 : List Value) (a2 : Option Nat), v = .slice (sb a5) (f0 + 1) d4 ∧ e = [(a5, .cells (arr (intC .i64) (a8 ++ ([0])) b5).toArray 2 (0, 0)), (a2, .cells (arr (intC .i64) a8 b7).toArray 2 (0, 0))] ∧ (f0 + 1) ≤ d4 ∧ b5.length = (d4 - (f0 + 1)) * 1 ∧ (a5 = none → d4 = 0) ∧ Kept a4 a2 a5⟩, ⟨[12], false, [], Z1m (.slice (sb a9) k6 o1)⟩, ⟨[12, 13, 16, 17], false, [], Z1m (.int .i64 l5)⟩, ⟨[12, 18], false, [], Z1m (.bool (decide (l5 = 60)))⟩, ⟨[12, 19], false, [], Z1m (.bool (decide (l5 = 60)))⟩, ⟨[20], false, [], Z1m (.bool true)⟩, ⟨[21], false, [], Z1m (.agg #[.int .i64 r3.N, .int .i64 r3.S, .int .i64 r3.T, .slice (sb d1) n6 c7])⟩, ⟨[16, 21], false, [], Z1m (.slice (sb a4) f0 h9)⟩, ⟨[21], false, [], Z1m (.slice (sb a9) k6 o1)⟩, ⟨[21, 24], false, [], Z1m (.slice (Zhk (sb a9) (1 : Int).toNat o1 1) (k6 - (1 : Int).toNat) (o1 - (1 : Int).toNat))⟩, ⟨[16, 21, 22, 23, 25], false, [], Z1m (.int .i64 n8)⟩, ⟨[21, 26], false, [], Z1m (.bool (decide (n8 = 60)))⟩, ⟨[21, 27], false, [], Z1m (.bool (decide (n8 = 60)))⟩, ⟨[28], false, [], Z1m (.bool false)⟩, ⟨[29], false, [], Z1m (undef)⟩, ⟨[16, 29], false, [], Z1m (undef)⟩, ⟨[29], false, [], Z1m (undef)⟩, ⟨[29], false, [], Z1m (undef)⟩, ⟨[29, 32, 33], false, [], Z1m (undef)⟩] [125, 126, 127, 128, 129, 130, 131, 132, 133, 134, 135, 136, 137, 138, 139, 140, 141, 142, 143, 144, 145, 146, 147, 148, 149, 150, 151, 152, 153, 154, 155, 156, 157, 158, 159] 35 (HRk [[(a4, .cells (arr (intC .i64) a8 b7).toArray 2 (0, 0))], [(a4, .cells (arr (intC .i64) a8 b7).toArray 2 (0, 0))], [(a4, .cells (arr (intC .i64) a8 b7).toArray 2 (0, 0))], []]) [[], [], [], []] [(a4, .cells (arr (intC .i64) a8 b7).toArray 2 (0, 0))] [(d9, .cells (arr boolC (a6.set r3.S.toNat false) i4).toArray 4 (0, 0)), (d7, .cells (arr boolC (a6.set r3.T.toNat true) h7).toArray 4 (0, 0)), (some b1, .cells #[.int .i64 r3.N, .int .i64 r3.S, .int .i64 r3.T, .slice (sb d1) n6 c7] 24 (0, 0)), (d1, .cells (arr Z2k r3.Arcs j8).toArray 35 (0, 0)), (a9, .cells (arr boolC a6 d6).toArray 4 (0, 0))]
            · exact Z4l
            · exact rfl
            · kernel_rfl
            · kernel_rfl
            · kernel_rfl
            · kernel_rfl
            · exact rfl
            · exact rfl
            · exact rfl
            · exact (by repeat (first | exact Z05 _ | exact Z08 | apply Pick.none | refine Z03 (by repeat (first | exact Take.head _ _ | apply Take.tail)) ?_))
            ·
             refine ⟨?_, ?_, ?_, ?_, ?_, ?_, ?_, ?_, ?_, ?_, ?_, ?_, ?_, ?_, ?_, ?_, ?_, ?_, ?_, ?_, ?_, ?_, ?_, ?_, ?_, ?_, ?_, ?_, ?_, ?_, ?_, ?_, ?_, ?_, ?_, trivial⟩
             · rintro vs es Es Hx -; refine Z0b (D := []) rfl ?_; refine Z0m rfl rfl rfl rfl Z0t mm2 rfl ?_; refine Z02 ?_; exact Z0u rfl ⟨rfl, rfl⟩ (Z05 _) rfl
             · rintro vs es Es Hx -; refine Z0b (D := []) rfl ?_; refine Z06 rfl rfl rfl rfl ?_; refine Z02 ?_; exact Z0u rfl ⟨rfl, rfl⟩ (Z05 _) rfl
             · rintro vs es Es Hx -; refine Z0b (D := []) rfl ?_; refine Z06 rfl rfl rfl rfl ?_; refine Z02 ?_; exact Z0u rfl ⟨rfl, rfl⟩ (Z05 _) rfl
             · rintro vs es Es Hx hb ⟨⟨i2, l0⟩, ⟨i5, l8⟩, ⟨i1, l6⟩, -⟩ hHR; obtain rfl : hb = [(a4, .cells (arr (intC .i64) a8 b7).toArray 2 (0, 0))] := hHR; refine Z0b (D := [(125, vs 0), (126, vs 1), (127, vs 2)]) rfl ?_; rw [i2, i5, i1]; refine Z0l Z0w rfl rfl rfl rfl (fun wc hwc => Z12 (n0 := r3) (f1 := a8) (s2 := (a6.set r3.T.toNat true)) wc (hwc.rs (f := Z2k) (s := 3) (xs := r3.Arcs) (j := j8) (fun _ => rfl) mm4 k7 e6 e7) (hwc.rs (f := (intC .i64)) (s := 1) (xs := a8) (j := b7) (fun _ => rfl) mm0 d0 e2 e3) (hwc.rs (f := boolC) (s := 1) (xs := (a6.set r3.T.toNat true)) (j := h7) (fun _ => rfl) mm2 (List.length_set.trans (Z3h e1)) o2 o4) p2) ?_; rintro _ _ ⟨rfl, rfl⟩; refine Z02 ?_; exact Z7w (hb' := [(a4, .cells (arr (intC .i64) a8 b7).toArray 2 (0, 0))]) rfl ⟨rfl, rfl⟩ rfl (by repeat (first | exact Z05 _ | exact Z08 | apply Pick.none | refine Z03 (by repeat (first | exact Take.head _ _ | apply Take.tail)) ?_)) (by show [(125, vs 0), (126, vs 1), (127, vs 2)] = _; rw [i2, i5, i1])
             · rintro vs es Es Hx ⟨⟨i9, n5⟩, -⟩; refine Z0b (D := [(128, vs 3)]) rfl ?_; rw [i9]; refine Z0s rfl rfl rfl rfl rfl rfl ?_; refine Z02 ?_; exact Z0u rfl ⟨rfl, rfl⟩ (Z05 _) (by show [(128, vs 3)] = _; rw [i9])
             · rintro vs es Es Hx ⟨⟨i6, l9⟩, -⟩; refine Z0b (D := [(129, vs 4)]) rfl ?_; rw [i6]; refine Z06 rfl rfl rfl rfl ?_; refine Z0v (t := 130) (b' := true) rfl (decide_eq_true p1) ?_; refine Z02 ?_; exact Z8o rfl ⟨rfl, rfl⟩ (Z05 _) (by show [(129, vs 4)] = _; rw [i6])
             · rintro vs es Es Hx ⟨⟨c9, e8⟩, -⟩; refine Z0b (D := [(130, vs 5)]) rfl ?_; rw [c9]; refine Z0m rfl rfl rfl rfl Z0t mm2 rfl ?_; refine Z02 ?_; exact Z0u rfl ⟨rfl, rfl⟩ (Z05 _) (by show [(130, vs 5)] = _; rw [c9])
             · rintro vs es Es Hx ⟨⟨c9, e8⟩, -⟩; refine Z0b (D := [(130, vs 5)]) rfl ?_; rw [c9]; refine Z06 rfl rfl rfl rfl ?_; refine Z02 ?_; exact Z0u rfl ⟨rfl, rfl⟩ (Z05 _) (by show [(130, vs 5)] = _; rw [c9])
             · rintro vs es Es Hx ⟨⟨c9, e8⟩, -⟩; refine Z0b (D := [(130, vs 5)]) rfl ?_; rw [c9]; refine Z06 rfl rfl rfl rfl ?_; refine Z02 ?_; exact Z0u rfl ⟨rfl, rfl⟩ (Z05 _) (by show [(130, vs 5)] = _; rw [c9])
             · rintro vs es Es Hx hb ⟨⟨c9, e8⟩, ⟨h3, j0⟩, ⟨j1, l7⟩, ⟨l1, n9⟩, -⟩ hHR; obtain rfl : hb = [(a4, .cells (arr (intC .i64) a8 b7).toArray 2 (0, 0))] := hHR; refine Z0b (D := [(130, vs 5), (131, vs 6), (132, vs 7), (133, vs 8)]) rfl ?_; rw [c9, h3, j1, l1]; refine Z0l Z0w rfl rfl rfl rfl (fun wc hwc => Z12 (n0 := r3) (f1 := a8) (s2 := (a6.set r3.S.toNat false)) wc (hwc.rs (f := Z2k) (s := 3) (xs := r3.Arcs) (j := j8) (fun _ => rfl) mm4 k7 e6 e7) (hwc.rs (f := (intC .i64)) (s := 1) (xs := a8) (j := b7) (fun _ => rfl) mm0 d0 e2 e3) (hwc.rs (f := boolC) (s := 1) (xs := (a6.set r3.S.toNat false)) (j := i4) (fun _ => rfl) mm1 (List.length_set.trans (Z3h e1)) o9 p0) p5) ?_; rintro _ _ ⟨rfl, rfl⟩; refine Z02 ?_; exact Z7w (hb' := [(a4, .cells (arr (intC .i64) a8 b7).toArray 2 (0, 0))]) rfl ⟨rfl, rfl⟩ rfl (by repeat (first | exact Z05 _ | exact Z08 | apply Pick.none | refine Z03 (by repeat (first | exact Take.head _ _ | apply Take.tail)) ?_)) (by show [(130, vs 5), (131, vs 6), (132, vs 7), (133, vs 8)] = _; rw [c9, h3, j1, l1])
             · rintro vs es Es Hx ⟨⟨c9, e8⟩, ⟨l3, o0⟩, -⟩; refine Z0b (D := [(130, vs 5), (134, vs 9)]) rfl ?_; rw [c9, l3]; refine Z0s rfl rfl rfl rfl rfl rfl ?_; refine Z02 ?_; exact Z0u rfl ⟨rfl, rfl⟩ (Z05 _) (by show [(130, vs 5), (134, vs 9)] = _; rw [c9, l3])
             · rintro vs es Es Hx ⟨⟨c9, e8⟩, ⟨f2, j3⟩, -⟩; refine Z0b (D := [(130, vs 5), (135, vs 10)]) rfl ?_; rw [c9, f2]; refine Z0x rfl rfl rfl rfl rfl ?_; refine Z02 ?_; exact Z0u rfl ⟨rfl, rfl⟩ (Z05 _) (by show [(130, vs 5), (135, vs 10)] = _; rw [c9, f2])
             · rintro vs es Es Hx ⟨⟨f3, j4⟩, -⟩; refine Z0b (D := [(136, vs 11)]) rfl ?_; rw [f3]; refine Z06 rfl rfl rfl rfl ?_; refine Z0v (t := 137) (b' := true) rfl (decide_eq_true p3) ?_; refine Z02 ?_; exact Z8o rfl ⟨rfl, rfl⟩ (Z05 _) (by show [(136, vs 11)] = _; rw [f3])
             · rintro vs es Es Hx ⟨⟨a3, b6⟩, -⟩; refine Z0b (D := [(137, vs 12)]) rfl ?_; rw [a3]; refine Z0m rfl rfl rfl rfl Z0t mm2 rfl ?_; refine Z02 ?_; exact Z0u rfl ⟨rfl, rfl⟩ (Z05 _) (by show [(137, vs 12)] = _; rw [a3])
             · rintro vs es Es Hx hb ⟨⟨a3, b6⟩, -⟩ hHR; obtain rfl : hb = [(a4, .cells (arr (intC .i64) a8 b7).toArray 2 (0, 0))] := hHR; refine Z0b (D := [(137, vs 12)]) rfl ?_; rw [a3]; refine Z06 rfl rfl rfl rfl ?_; refine Z02 ?_; exact Zfg (hb' := []) (e' := [(a4, .cells (arr (intC .i64) a8 b7).toArray 2 (0, 0))]) rfl ⟨rfl, rfl⟩ rfl (by repeat (first | exact Z05 _ | exact Z08 | apply Pick.none | refine Z03 (by repeat (first | exact Take.head _ _ | apply Take.tail)) ?_)) (by show [(137, vs 12)] = _; rw [a3])
             · rintro vs es Es Hx ⟨⟨a3, b6⟩, -⟩; refine Z0b (D := [(137, vs 12)]) rfl ?_; rw [a3]; refine Z0n [.int .i64 0] [0] rfl rfl rfl rfl Z1a Z1h Z3x rfl rfl (by simp only [Z1n, setCells, Value.cells, List.toList_toArray, List.getD_cons_zero, List.getD_cons_succ, List.set_cons_zero, List.set_cons_succ]; rfl) (by kernel_rfl) ?_; intro e0; refine Z02 ?_; exact Z0u rfl ⟨e0, rfl, rfl⟩ (by repeat (first | exact Z05 _ | exact Z08 | apply Pick.none | refine Z03 (by repeat (first | exact Take.head _ _ | apply Take.tail)) ?_)) (by show [(137, vs 12)] = _; rw [a3])
             · rintro vs es Es Hx ⟨⟨a3, b6⟩, ⟨f4, j5⟩, ⟨e0, f5, f6⟩, -⟩; refine Z0b (D := [(137, vs 12), (139, vs 14), (140, vs 15)]) rfl ?_; rw [a3, f4, f5]; refine Z16 (H := [(d9, .cells (arr boolC (a6.set r3.S.toNat false) i4).toArray 4 (0, 0)), (d7, .cells (arr boolC (a6.set r3.T.toNat true) h7).toArray 4 (0, 0)), (some b1, .cells #[.int .i64 r3.N, .int .i64 r3.S, .int .i64 r3.T, .slice (sb d1) n6 c7] 24 (0, 0)), (d1, .cells (arr Z2k r3.Arcs j8).toArray 35 (0, 0)), (a9, .cells (arr boolC a6 d6).toArray 4 (0, 0))] ++ ([(a4, .cells (arr (intC .i64) a8 b7).toArray 2 (0, 0)), (some e0, .cells (arr (intC .i64) ([0]) ([])).toArray 2 (0, 0))] ++ Hx)) (by show _ ++ ((es 12 ++ (es 14 ++ (es 15 ++ ([])))) ++ _) = _; rw [b6, j5, f6]; rfl) ?_; refine Zdf (f := (intC .i64)) (s := 1) (xs := a8) (ob := a4) (j := b7) (ys := [0]) (fun _ => rfl) (fun _ => rfl) Z4e p7 rfl rfl rfl rfl rfl tk5 d0 e2 n7 e3 (fun wc hwc => (hwc.rs (f := (intC .i64)) (s := 1) (xs := [0]) (j := ([])) (fun _ => rfl) mm6 rfl (Nat.le_refl _) Z1g)) ?_; intro a5 d4 b5 c3 d8 c4 a2 d3; refine Z02 ?_; exact Z0u rfl ⟨a5, d4, b5, a2, rfl, rfl, c3, d8, c4, d3⟩ (by show Pick (_ ++ (_ ++ ((es 12 ++ (es 15 ++ ([]))) ++ _))) _; rw [b6, f6]; exact (by repeat (first | exact Z05 _ | exact Z08 | apply Pick.none | refine Z03 (by repeat (first | exact Take.head _ _ | apply Take.tail)) ?_))) (by show [(137, vs 12), (139, vs 14), (140, vs 15)] = _; rw [a3, f4, f5])
             · rintro vs es Es Hx ⟨⟨a3, b6⟩, -⟩; refine Z0b (D := [(137, vs 12)]) rfl ?_; rw [a3]; refine Z06 rfl rfl rfl rfl ?_; refine Z02 ?_; exact Z0u rfl ⟨rfl, rfl⟩ (Z05 _) (by show [(137, vs 12)] = _; rw [a3])
             · rintro vs es Es Hx ⟨⟨a3, b6⟩, ⟨f7, f8⟩, ⟨a5, d4, b5, a2, b8, b9, c3, d8, c4, d3⟩, ⟨f9, g0⟩, -⟩; refine Z0b (D := [(137, vs 12), (138, vs 13), (141, vs 16), (142, vs 17)]) rfl ?_; rw [a3, f7, b8, f9]; refine Z16 (H := [(d9, .cells (arr boolC (a6.set r3.S.toNat false) i4).toArray 4 (0, 0)), (d7, .cells (arr boolC (a6.set r3.T.toNat true) h7).toArray 4 (0, 0)), (some b1, .cells #[.int .i64 r3.N, .int .i64 r3.S, .int .i64 r3.T, .slice (sb d1) n6 c7] 24 (0, 0)), (d1, .cells (arr Z2k r3.Arcs j8).toArray 35 (0, 0)), (a9, .cells (arr boolC a6 d6).toArray 4 (0, 0))] ++ ([(a5, .cells (arr (intC .i64) (a8 ++ ([0])) b5).toArray 2 (0, 0)), (a2, .cells (arr (intC .i64) a8 b7).toArray 2 (0, 0))] ++ Hx)) (by show _ ++ ((es 12 ++ (es 13 ++ (es 16 ++ (es 17 ++ ([]))))) ++ _) = _; rw [b6, f8, b9, g0]; rfl) ?_; refine Z0l Z0w rfl rfl rfl rfl (fun wc hwc => Z12 (n0 := r3) (f1 := (a8 ++ ([0]))) (s2 := a6) wc (hwc.rs (f := Z2k) (s := 3) (xs := r3.Arcs) (j := j8) (fun _ => rfl) mm3 k7 e6 e7) (hwc.rs (f := (intC .i64)) (s := 1) (xs := (a8 ++ ([0]))) (j := b5) (fun _ => rfl) mm5 (Z7o d0 rfl) c3 c4) (hwc.rs (f := boolC) (s := 1) (xs := a6) (j := d6) (fun _ => rfl) mm4 e1 k8 k9) p8) ?_; rintro _ _ ⟨rfl, rfl⟩; refine Z02 ?_; exact Z0u rfl ⟨rfl, rfl⟩ (by show Pick (_ ++ (_ ++ ((es 12 ++ (es 13 ++ (es 16 ++ (es 17 ++ ([]))))) ++ _))) _; rw [b6, f8, b9, g0]; exact (by repeat (first | exact Z05 _ | exact Z08 | apply Pick.none | refine Z03 (by repeat (first | exact Take.head _ _ | apply Take.tail)) ?_))) (by show [(137, vs 12), (138, vs 13), (141, vs 16), (142, vs 17)] = _; rw [a3, f7, b8, f9])
             · rintro vs es Es Hx ⟨⟨a3, b6⟩, ⟨g1, j6⟩, -⟩; refine Z0b (D := [(137, vs 12), (143, vs 18)]) rfl ?_; rw [a3, g1]; refine Z0s rfl rfl rfl rfl rfl rfl ?_; refine Z02 ?_; exact Z0u rfl ⟨rfl, rfl⟩ (Z05 _) (by show [(137, vs 12), (143, vs 18)] = _; rw [a3, g1])
             · rintro vs es Es Hx ⟨⟨a3, b6⟩, ⟨g2, j7⟩, -⟩; refine Z0b (D := [(137, vs 12), (144, vs 19)]) rfl ?_; rw [a3, g2]; refine Z0x rfl rfl rfl rfl rfl ?_; refine Z02 ?_; exact Z0u rfl ⟨rfl, rfl⟩ (Z05 _) (by show [(137, vs 12), (144, vs 19)] = _; rw [a3, g2])
             · rintro vs es Es Hx ⟨⟨g3, j9⟩, -⟩; refine Z0b (D := [(145, vs 20)]) rfl ?_; rw [g3]; refine Z06 rfl rfl rfl rfl ?_; refine Z0v (t := 146) (b' := true) rfl (decide_eq_true p6) ?_; refine Z02 ?_; exact Z8o rfl ⟨rfl, rfl⟩ (Z05 _) (by show [(145, vs 20)] = _; rw [g3])
             · rintro vs es Es Hx ⟨⟨a7, c8⟩, -⟩; refine Z0b (D := [(146, vs 21)]) rfl ?_; rw [a7]; refine Z0m rfl rfl rfl rfl Z0t mm2 rfl ?_; refine Z02 ?_; exact Z0u rfl ⟨rfl, rfl⟩ (Z05 _) (by show [(146, vs 21)] = _; rw [a7])
             · rintro vs es Es Hx ⟨⟨a5, d4, b5, a2, b8, b9, c3, d8, c4, d3⟩, ⟨a7, c8⟩, -⟩; refine Z0b (D := [(141, vs 16), (146, vs 21)]) rfl ?_; rw [b8, a7]; refine Z16 (H := [(d9, .cells (arr boolC (a6.set r3.S.toNat false) i4).toArray 4 (0, 0)), (d7, .cells (arr boolC (a6.set r3.T.toNat true) h7).toArray 4 (0, 0)), (some b1, .cells #[.int .i64 r3.N, .int .i64 r3.S, .int .i64 r3.T, .slice (sb d1) n6 c7] 24 (0, 0)), (d1, .cells (arr Z2k r3.Arcs j8).toArray 35 (0, 0)), (a9, .cells (arr boolC a6 d6).toArray 4 (0, 0))] ++ ([(a5, .cells (arr (intC .i64) (a8 ++ ([0])) b5).toArray 2 (0, 0)), (a2, .cells (arr (intC .i64) a8 b7).toArray 2 (0, 0))] ++ Hx)) (by show _ ++ ((es 16 ++ (es 21 ++ ([]))) ++ _) = _; rw [b9, c8]; rfl) ?_; refine Z06 rfl rfl rfl rfl ?_; refine Z02 ?_; exact Z0u rfl ⟨rfl, rfl⟩ (by show Pick (_ ++ (_ ++ ((es 16 ++ (es 21 ++ ([]))) ++ _))) _; rw [b9, c8]; exact (by repeat (first | exact Z05 _ | exact Z08 | apply Pick.none | refine Z03 (by repeat (first | exact Take.head _ _ | apply Take.tail)) ?_))) (by show [(141, vs 16), (146, vs 21)] = _; rw [b8, a7])
             · rintro vs es Es Hx ⟨⟨a7, c8⟩, -⟩; refine Z0b (D := [(146, vs 21)]) rfl ?_; rw [a7]; refine Z06 rfl rfl rfl rfl ?_; refine Z02 ?_; exact Z0u rfl ⟨rfl, rfl⟩ (Z05 _) (by show [(146, vs 21)] = _; rw [a7])
             · rintro vs es Es Hx ⟨⟨a7, c8⟩, ⟨g4, k1⟩, -⟩; refine Z0b (D := [(146, vs 21), (149, vs 24)]) rfl ?_; rw [a7, g4]; refine Zjy (xs := a6) e1 p4 rfl rfl rfl rfl rfl Z1z Z1q ?_; refine Z02 ?_; exact Z0u rfl ⟨rfl, rfl⟩ (Z05 _) (by show [(146, vs 21), (149, vs 24)] = _; rw [a7, g4])
             · rintro vs es Es Hx ⟨⟨a5, d4, b5, a2, b8, b9, c3, d8, c4, d3⟩, ⟨a7, c8⟩, ⟨g5, h4⟩, ⟨g6, h5⟩, ⟨g7, h6⟩, -⟩; refine Z0b (D := [(141, vs 16), (146, vs 21), (147, vs 22), (148, vs 23), (150, vs 25)]) rfl ?_; rw [b8, a7, g5, g6, g7]; refine Z16 (H := [(d9, .cells (arr boolC (a6.set r3.S.toNat false) i4).toArray 4 (0, 0)), (d7, .cells (arr boolC (a6.set r3.T.toNat true) h7).toArray 4 (0, 0)), (some b1, .cells #[.int .i64 r3.N, .int .i64 r3.S, .int .i64 r3.T, .slice (sb d1) n6 c7] 24 (0, 0)), (d1, .cells (arr Z2k r3.Arcs j8).toArray 35 (0, 0)), (a9, .cells (arr boolC a6 d6).toArray 4 (0, 0))] ++ ([(a5, .cells (arr (intC .i64) (a8 ++ ([0])) b5).toArray 2 (0, 0)), (a2, .cells (arr (intC .i64) a8 b7).toArray 2 (0, 0))] ++ Hx)) (by show _ ++ ((es 16 ++ (es 21 ++ (es 22 ++ (es 23 ++ (es 25 ++ ([])))))) ++ _) = _; rw [b9, c8, h4, h5, h6]; rfl) ?_; refine Z0l Z0w rfl rfl rfl rfl (fun wc hwc => Z12 (n0 := r3) (f1 := a8) (s2 := (a6.drop (1 : Int).toNat)) wc (hwc.rs (f := Z2k) (s := 3) (xs := r3.Arcs) (j := j8) (fun _ => rfl) mm3 k7 e6 e7) (d3.rs (f := (intC .i64)) (s := 1) (j := b7) (j' := b5) hwc (fun _ => rfl) mm5 mm6 (Z7o d0 rfl) c3 c4 d0 e2 e3) (RS.drop (hwc.rs (f := boolC) (s := 1) (xs := a6) (j := d6) (fun _ => rfl) mm4 e1 k8 k9) p4) q2) ?_; rintro _ _ ⟨rfl, rfl⟩; refine Z02 ?_; exact Z0u rfl ⟨rfl, rfl⟩ (by show Pick (_ ++ (_ ++ ((es 16 ++ (es 21 ++ (es 22 ++ (es 23 ++ (es 25 ++ ([])))))) ++ _))) _; rw [b9, c8, h4, h5, h6]; exact (by repeat (first | exact Z05 _ | exact Z08 | apply Pick.none | refine Z03 (by repeat (first | exact Take.head _ _ | apply Take.tail)) ?_))) (by show [(141, vs 16), (146, vs 21), (147, vs 22), (148, vs 23), (150, vs 25)] = _; rw [b8, a7, g5, g6, g7])
             · rintro vs es Es Hx ⟨⟨a7, c8⟩, ⟨g8, k2⟩, -⟩; refine Z0b (D := [(146, vs 21), (151, vs 26)]) rfl ?_; rw [a7, g8]; refine Z0s rfl rfl rfl rfl rfl rfl ?_; refine Z02 ?_; exact Z0u rfl ⟨rfl, rfl⟩ (Z05 _) (by show [(146, vs 21), (151, vs 26)] = _; rw [a7, g8])
             · rintro vs es Es Hx ⟨⟨a7, c8⟩, ⟨g9, k3⟩, -⟩; refine Z0b (D := [(146, vs 21), (152, vs 27)]) rfl ?_; rw [a7, g9]; refine Z0x rfl rfl rfl rfl rfl ?_; refine Z02 ?_; exact Z0u rfl ⟨rfl, rfl⟩ (Z05 _) (by show [(146, vs 21), (152, vs 27)] = _; rw [a7, g9])
             · rintro vs es Es Hx ⟨⟨h0, k4⟩, -⟩; refine Z0b (D := [(153, vs 28)]) rfl ?_; rw [h0]; refine Z06 rfl rfl rfl rfl ?_; refine Z0v (t := 154) (b' := false) rfl (decide_eq_false p9) ?_; refine Z02 ?_; exact Z8o rfl ⟨rfl, rfl⟩ (Z05 _) (by show [(153, vs 28)] = _; rw [h0])
             · rintro vs es Es Hx ⟨⟨b0, d5⟩, -⟩; refine Z0b (D := [(154, vs 29)]) rfl ?_; rw [b0]; refine Z0c rfl rfl rfl rfl ?_; refine Z02 ?_; exact Z0u rfl ⟨rfl, rfl⟩ (Z05 _) (by show [(154, vs 29)] = _; rw [b0])
             · rintro vs es Es Hx ⟨⟨a5, d4, b5, a2, b8, b9, c3, d8, c4, d3⟩, ⟨b0, d5⟩, -⟩; refine Z0b (D := [(141, vs 16), (154, vs 29)]) rfl ?_; rw [b8, b0]; refine Z16 (H := [(d9, .cells (arr boolC (a6.set r3.S.toNat false) i4).toArray 4 (0, 0)), (d7, .cells (arr boolC (a6.set r3.T.toNat true) h7).toArray 4 (0, 0)), (some b1, .cells #[.int .i64 r3.N, .int .i64 r3.S, .int .i64 r3.T, .slice (sb d1) n6 c7] 24 (0, 0)), (d1, .cells (arr Z2k r3.Arcs j8).toArray 35 (0, 0)), (a9, .cells (arr boolC a6 d6).toArray 4 (0, 0))] ++ ([(a5, .cells (arr (intC .i64) (a8 ++ ([0])) b5).toArray 2 (0, 0)), (a2, .cells (arr (intC .i64) a8 b7).toArray 2 (0, 0))] ++ Hx)) (by show _ ++ ((es 16 ++ (es 29 ++ ([]))) ++ _) = _; rw [b9, d5]; rfl) ?_; refine Z0c rfl rfl rfl rfl ?_; refine Z02 ?_; exact Z0u rfl ⟨rfl, rfl⟩ (by show Pick (_ ++ (_ ++ ((es 16 ++ (es 29 ++ ([]))) ++ _))) _; rw [b9, d5]; exact (by repeat (first | exact Z05 _ | exact Z08 | apply Pick.none | refine Z03 (by repeat (first | exact Take.head _ _ | apply Take.tail)) ?_))) (by show [(141, vs 16), (154, vs 29)] = _; rw [b8, b0])
             · rintro vs es Es Hx ⟨⟨b0, d5⟩, -⟩; refine Z0b (D := [(154, vs 29)]) rfl ?_; rw [b0]; refine Z0c rfl rfl rfl rfl ?_; refine Z02 ?_; exact Z0u rfl ⟨rfl, rfl⟩ (Z05 _) (by show [(154, vs 29)] = _; rw [b0])
             · rintro vs es Es Hx ⟨⟨b0, d5⟩, -⟩; refine Z0b (D := [(154, vs 29)]) rfl ?_; rw [b0]; refine Z0c rfl rfl rfl rfl ?_; refine Z02 ?_; exact Z0u rfl ⟨rfl, rfl⟩ (Z05 _) (by show [(154, vs 29)] = _; rw [b0])
             · rintro vs es Es Hx ⟨⟨b0, d5⟩, ⟨h1, k5⟩, ⟨h2, h8⟩, -⟩; refine Z0b (D := [(154, vs 29), (157, vs 32), (158, vs 33)]) rfl ?_; rw [b0, h1, h2]; refine Z0c rfl rfl rfl rfl ?_; refine Z02 ?_; exact Z0u rfl ⟨rfl, rfl⟩ (Z05 _) (by show [(154, vs 29), (157, vs 32), (158, vs 33)] = _; rw [b0, h1, h2])
            · rintro vs es hb ⟨⟨i2, l0⟩, ⟨i5, l8⟩, ⟨i1, l6⟩, ⟨i9, n5⟩, ⟨i6, l9⟩, ⟨c9, e8⟩, ⟨h3, j0⟩, ⟨j1, l7⟩, ⟨l1, n9⟩, ⟨l3, o0⟩, ⟨f2, j3⟩, ⟨f3, j4⟩, ⟨a3, b6⟩, ⟨f7, f8⟩, ⟨f4, j5⟩, ⟨e0, f5, f6⟩, ⟨a5, d4, b5, a2, b8, b9, c3, d8, c4, d3⟩, ⟨f9, g0⟩, ⟨g1, j6⟩, ⟨g2, j7⟩, ⟨g3, j9⟩, ⟨a7, c8⟩, ⟨g5, h4⟩, ⟨g6, h5⟩, ⟨g4, k1⟩, ⟨g7, h6⟩, ⟨g8, k2⟩, ⟨g9, k3⟩, ⟨h0, k4⟩, ⟨b0, d5⟩, ⟨m4, m5⟩, ⟨m6, m7⟩, ⟨h1, k5⟩, ⟨h2, h8⟩, ⟨m8, m9⟩, -⟩ hHR; obtain rfl : hb = [] := hHR; refine Z0b (D := [(125, vs 0), (126, vs 1), (127, vs 2), (128, vs 3), (129, vs 4), (130, vs 5), (131, vs 6), (132, vs 7), (133, vs 8), (134, vs 9), (135, vs 10), (136, vs 11), (137, vs 12), (138, vs 13), (139, vs 14), (140, vs 15), (141, vs 16), (142, vs 17), (143, vs 18), (144, vs 19), (145, vs 20), (146, vs 21), (147, vs 22), (148, vs 23), (149, vs 24), (150, vs 25), (151, vs 26), (152, vs 27), (153, vs 28), (154, vs 29), (155, vs 30), (156, vs 31), (157, vs 32), (158, vs 33), (159, vs 34)]) rfl ?_; refine Z16 (H := [(d9, .cells (arr boolC (a6.set r3.S.toNat false) i4).toArray 4 (0, 0)), (d7, .cells (arr boolC (a6.set r3.T.toNat true) h7).toArray 4 (0, 0)), (some b1, .cells #[.int .i64 r3.N, .int .i64 r3.S, .int .i64 r3.T, .slice (sb d1) n6 c7] 24 (0, 0)), (d1, .cells (arr Z2k r3.Arcs j8).toArray 35 (0, 0)), (a9, .cells (arr boolC a6 d6).toArray 4 (0, 0)), (some e0, .cells (arr (intC .i64) ([0]) ([])).toArray 2 (0, 0)), (a5, .cells (arr (intC .i64) (a8 ++ ([0])) b5).toArray 2 (0, 0)), (a2, .cells (arr (intC .i64) a8 b7).toArray 2 (0, 0))]) (by show _ ++ (_ ++ (es 0 ++ (es 1 ++ (es 2 ++ (es 3 ++ (es 4 ++ (es 5 ++ (es 6 ++ (es 7 ++ (es 8 ++ (es 9 ++ (es 10 ++ (es 11 ++ (es 12 ++ (es 13 ++ (es 15 ++ (es 16 ++ (es 17 ++ (es 18 ++ (es 19 ++ (es 20 ++ (es 21 ++ (es 22 ++ (es 23 ++ (es 24 ++ (es 25 ++ (es 26 ++ (es 27 ++ (es 28 ++ (es 29 ++ (es 30 ++ (es 31 ++ (es 32 ++ (es 33 ++ (es 34 ++ ([])))))))))))))))))))))))))))))))))))) = _; rw [l0, l8, l6, n5, l9, e8, j0, l7, n9, o0, j3, j4, b6, f8, f6, b9, g0, j6, j7, j9, c8, h4, h5, k1, h6, k2, k3, k4, d5, m5, m7, k5, h8, m9]; rfl) ?_; rw [i2, i5, i1, i9, i6, c9, h3, j1, l1, l3, f2, f3, a3, f7, f4, f5, b8, f9, g1, g2, g3, a7, g5, g6, g4, g7, g8, g9, h0, b0, m4, m6, h1, h2, m8]; clear m8 h2 h1 m6 m4 b0 h0 g9 g8 g7 g4 g6 g5 a7 g3 g2 g1 f9 b8 f5 f4 f7 a3 f3 f2 l3 l1 j1 h3 c9 i6 i9 i1 i5 i2 l0 l8 l6 n5 l9 e8 j0 l7 n9 o0 j3 j4 b6 f8 j5 f6 b9 g0 j6 j7 j9 c8 h4 h5 k1 h6 k2 k3 k4 d5 m5 m7 k5 h8 m9; refine Z0c rfl rfl rfl rfl ?_; refine Z0c rfl rfl rfl rfl ?_; refine Z10 rfl rfl rfl rfl rfl ?_; refine Z06 rfl rfl rfl rfl ?_; refine Z0c rfl rfl rfl rfl ?_; refine Z10 rfl rfl rfl rfl rfl ?_; refine Z07 rfl rfl rfl rfl ?_; refine Z02 ?_; refine Z01 ?_; refine Z0k (Z00 (t := 6) rfl Z0a) ?_; refine T.ret ?_; obtain rfl := ret1 H; exact Z14 rfl rfl rfl rfl (Res.tmp rfl) Z08 ⟨rfl, rfl⟩
          ·
           apply Ze5 [⟨[], false, [], Z1m (.agg #[.int .i64 r3.N, .int .i64 r3.S, .int .i64 r3.T, .slice (sb d1) n6 c7])⟩, ⟨[], false, [], Z1m (.slice (sb a4) f0 h9)⟩, ⟨[], false, [], Z1m (.slice (sb d7) (0 + k6) c83)⟩, ⟨[0, 1, 2], true, [], Z1m (.int .i64 o6)⟩, ⟨[3], false, [], Z1m (.bool (decide (o6 = 63)))⟩, ⟨[4], false, [], Z1m (.bool true)⟩, ⟨[5], false, [], Z1m (.agg #[.int .i64 r3.N, .int .i64 r3.S, .int .i64 r3.T, .slice (sb d1) n6 c7])⟩, ⟨[5], false, [], Z1m (.slice (sb a4) f0 h9)⟩, ⟨[5], false, [], Z1m (.slice (sb d9) (0 + k6) r5)⟩, ⟨[5, 6, 7, 8], true, [], Z1m (.int .i64 l4)⟩, ⟨[5, 9], false, [], Z1m (.bool (decide (l4 = 63)))⟩, ⟨[5, 10], false, [], Z1m (.bool (decide (l4 = 63)))⟩, ⟨[11], false, [], Z1m (.bool true)⟩, ⟨[12], false, [], Z1m (.agg #[.int .i64 r3.N, .int .i64 r3.S, .int .i64 r3.T, .slice (sb d1) n6 c7])⟩, ⟨[12], true, [], fun _ v e => v = .slice (sb a4) f0 h9 ∧ e = [(a4, .cells (arr (intC .i64) a8 b7).toArray 2 (0, 0))]⟩, ⟨[12], false, [], fun _ v e => ∃ (e0 : Nat), v = .slice (some ⟨e0, 0, none⟩) 1 1 ∧ e = [(some e0, .cells (arr (intC .i64) ([0]) ([])).toArray 2 (0, 0))]⟩, ⟨[12, 14, 15], false, [14], fun _ v e => ∃ (a5 : Option Nat) (d4 : Nat) (b5 : List Value) (a2 : Option Nat), v = .slice (sb a5) (f0 + 1) d4 ∧ e = [(a5, .cells (arr (intC .i64) (a8 ++ ([0])) b5).toArray 2 (0, 0)), (a2, .cells (arr (intC .i64) a8 b7).toArray 2 (0, 0))] ∧ (f0 + 1) ≤ d4 ∧ b5.length = (d4 - (f0 + 1)) * 1 ∧ (a5 = none → d4 = 0) ∧ Kept a4 a2 a5⟩, ⟨[12], false, [], Z1m (.slice (sb a9) k6 o1)⟩, ⟨[12, 13, 16, 17], false, [], Z1m (.int .i64 l5)⟩, ⟨[12, 18], false, [], Z1m (.bool (decide (l5 = 60)))⟩, ⟨[12, 19], false, [], Z1m (.bool (decide (l5 = 60)))⟩, ⟨[20], false, [], Z1m (.bool false)⟩, ⟨[21], false, [], Z1m (undef)⟩, ⟨[16, 21], false, [], Z1m (undef)⟩, ⟨[21], false, [], Z1m (undef)⟩, ⟨[21, 24], false, [], Z1m (undef)⟩, ⟨[21, 22, 23, 25], false, [], Z1m (undef)⟩, ⟨[21, 26], false, [], Z1m (undef)⟩, ⟨[21, 27], false, [], Z1m (.bool false)⟩, ⟨[28], false, [], Z1m (.bool false)⟩, ⟨[29], false, [], Z1m (undef)⟩, ⟨[16, 29], false, [], Z1m (undef)⟩, ⟨[29], false, [], Z1m (undef)⟩, ⟨[29], false, [], Z1m (undef)⟩, ⟨[29, 32, 33], false, [], Z1m (undef)⟩] [125, 126, 127, 128, 129, 130, 131, 132, 133, 134, 135, 136, 137, 138, 139, 140, 141, 142, 143, 144, 145, 146, 147, 148, 149, 150, 151, 152, 153, 154, 155, 156, 157, 158, 159] 35 (HRk [[(a4, .cells (arr (intC .i64) a8 b7).toArray 2 (0, 0))], [(a4, .cells (arr (intC .i64) a8 b7).toArray 2 (0, 0))], [(a4, .cells (arr (intC .i64) a8 b7).toArray 2 (0, 0))], []]) [[], [], [], []] [(a4, .cells (arr (intC .i64) a8 b7).toArray 2 (0, 0))] [(d9, .cells (arr boolC (a6.set r3.S.toNat false) i4).toArray 4 (0, 0)), (d7, .cells (arr boolC (a6.set r3.T.toNat true) h7).toArray 4 (0, 0)), (some b1, .cells #[.int .i64 r3.N, .int .i64 r3.S, .int .i64 r3.T, .slice (sb d1) n6 c7] 24 (0, 0)), (d1, .cells (arr Z2k r3.Arcs j8).toArray 35 (0, 0)), (a9, .cells (arr boolC a6 d6).toArray 4 (0, 0))]
           · exact Z4l
           · exact rfl
           · kernel_rfl
           · kernel_rfl
           · kernel_rfl
           · kernel_rfl
           · exact rfl
           · exact rfl
           · exact rfl
           · exact (by repeat (first | exact Z05 _ | exact Z08 | apply Pick.none | refine Z03 (by repeat (first | exact Take.head _ _ | apply Take.tail)) ?_))
           ·
            refine ⟨?_, ?_, ?_, ?_, ?_, ?_, ?_, ?_, ?_, ?_, ?_, ?_, ?_, ?_, ?_, ?_, ?_, ?_, ?_, ?_, ?_, ?_, ?_, ?_, ?_, ?_, ?_, ?_, ?_, ?_, ?_, ?_, ?_, ?_, ?_, trivial⟩
            · rintro vs es Es Hx -; refine Z0b (D := []) rfl ?_; refine Z0m rfl rfl rfl rfl Z0t mm2 rfl ?_; refine Z02 ?_; exact Z0u rfl ⟨rfl, rfl⟩ (Z05 _) rfl
            · rintro vs es Es Hx -; refine Z0b (D := []) rfl ?_; refine Z06 rfl rfl rfl rfl ?_; refine Z02 ?_; exact Z0u rfl ⟨rfl, rfl⟩ (Z05 _) rfl
            · rintro vs es Es Hx -; refine Z0b (D := []) rfl ?_; refine Z06 rfl rfl rfl rfl ?_; refine Z02 ?_; exact Z0u rfl ⟨rfl, rfl⟩ (Z05 _) rfl
            · rintro vs es Es Hx hb ⟨⟨i2, l0⟩, ⟨i5, l8⟩, ⟨i1, l6⟩, -⟩ hHR; obtain rfl : hb = [(a4, .cells (arr (intC .i64) a8 b7).toArray 2 (0, 0))] := hHR; refine Z0b (D := [(125, vs 0), (126, vs 1), (127, vs 2)]) rfl ?_; rw [i2, i5, i1]; refine Z0l Z0w rfl rfl rfl rfl (fun wc hwc => Z12 (n0 := r3) (f1 := a8) (s2 := (a6.set r3.T.toNat true)) wc (hwc.rs (f := Z2k) (s := 3) (xs := r3.Arcs) (j := j8) (fun _ => rfl) mm4 k7 e6 e7) (hwc.rs (f := (intC .i64)) (s := 1) (xs := a8) (j := b7) (fun _ => rfl) mm0 d0 e2 e3) (hwc.rs (f := boolC) (s := 1) (xs := (a6.set r3.T.toNat true)) (j := h7) (fun _ => rfl) mm2 (List.length_set.trans (Z3h e1)) o2 o4) p2) ?_; rintro _ _ ⟨rfl, rfl⟩; refine Z02 ?_; exact Z7w (hb' := [(a4, .cells (arr (intC .i64) a8 b7).toArray 2 (0, 0))]) rfl ⟨rfl, rfl⟩ rfl (by repeat (first | exact Z05 _ | exact Z08 | apply Pick.none | refine Z03 (by repeat (first | exact Take.head _ _ | apply Take.tail)) ?_)) (by show [(125, vs 0), (126, vs 1), (127, vs 2)] = _; rw [i2, i5, i1])
            · rintro vs es Es Hx ⟨⟨i9, n5⟩, -⟩; refine Z0b (D := [(128, vs 3)]) rfl ?_; rw [i9]; refine Z0s rfl rfl rfl rfl rfl rfl ?_; refine Z02 ?_; exact Z0u rfl ⟨rfl, rfl⟩ (Z05 _) (by show [(128, vs 3)] = _; rw [i9])
            · rintro vs es Es Hx ⟨⟨i6, l9⟩, -⟩; refine Z0b (D := [(129, vs 4)]) rfl ?_; rw [i6]; refine Z06 rfl rfl rfl rfl ?_; refine Z0v (t := 130) (b' := true) rfl (decide_eq_true p1) ?_; refine Z02 ?_; exact Z8o rfl ⟨rfl, rfl⟩ (Z05 _) (by show [(129, vs 4)] = _; rw [i6])
            · rintro vs es Es Hx ⟨⟨c9, e8⟩, -⟩; refine Z0b (D := [(130, vs 5)]) rfl ?_; rw [c9]; refine Z0m rfl rfl rfl rfl Z0t mm2 rfl ?_; refine Z02 ?_; exact Z0u rfl ⟨rfl, rfl⟩ (Z05 _) (by show [(130, vs 5)] = _; rw [c9])
            · rintro vs es Es Hx ⟨⟨c9, e8⟩, -⟩; refine Z0b (D := [(130, vs 5)]) rfl ?_; rw [c9]; refine Z06 rfl rfl rfl rfl ?_; refine Z02 ?_; exact Z0u rfl ⟨rfl, rfl⟩ (Z05 _) (by show [(130, vs 5)] = _; rw [c9])
            · rintro vs es Es Hx ⟨⟨c9, e8⟩, -⟩; refine Z0b (D := [(130, vs 5)]) rfl ?_; rw [c9]; refine Z06 rfl rfl rfl rfl ?_; refine Z02 ?_; exact Z0u rfl ⟨rfl, rfl⟩ (Z05 _) (by show [(130, vs 5)] = _; rw [c9])
            · rintro vs es Es Hx hb ⟨⟨c9, e8⟩, ⟨h3, j0⟩, ⟨j1, l7⟩, ⟨l1, n9⟩, -⟩ hHR; obtain rfl : hb = [(a4, .cells (arr (intC .i64) a8 b7).toArray 2 (0, 0))] := hHR; refine Z0b (D := [(130, vs 5), (131, vs 6), (132, vs 7), (133, vs 8)]) rfl ?_; rw [c9, h3, j1, l1]; refine Z0l Z0w rfl rfl rfl rfl (fun wc hwc => Z12 (n0 := r3) (f1 := a8) (s2 := (a6.set r3.S.toNat false)) wc (hwc.rs (f := Z2k) (s := 3) (xs := r3.Arcs) (j := j8) (fun _ => rfl) mm4 k7 e6 e7) (hwc.rs (f := (intC .i64)) (s := 1) (xs := a8) (j := b7) (fun _ => rfl) mm0 d0 e2 e3) (hwc.rs (f := boolC) (s := 1) (xs := (a6.set r3.S.toNat false)) (j := i4) (fun _ => rfl) mm1 (List.length_set.trans (Z3h e1)) o9 p0) p5) ?_; rintro _ _ ⟨rfl, rfl⟩; refine Z02 ?_; exact Z7w (hb' := [(a4, .cells (arr (intC .i64) a8 b7).toArray 2 (0, 0))]) rfl ⟨rfl, rfl⟩ rfl (by repeat (first | exact Z05 _ | exact Z08 | apply Pick.none | refine Z03 (by repeat (first | exact Take.head _ _ | apply Take.tail)) ?_)) (by show [(130, vs 5), (131, vs 6), (132, vs 7), (133, vs 8)] = _; rw [c9, h3, j1, l1])
            · rintro vs es Es Hx ⟨⟨c9, e8⟩, ⟨l3, o0⟩, -⟩; refine Z0b (D := [(130, vs 5), (134, vs 9)]) rfl ?_; rw [c9, l3]; refine Z0s rfl rfl rfl rfl rfl rfl ?_; refine Z02 ?_; exact Z0u rfl ⟨rfl, rfl⟩ (Z05 _) (by show [(130, vs 5), (134, vs 9)] = _; rw [c9, l3])
            · rintro vs es Es Hx ⟨⟨c9, e8⟩, ⟨f2, j3⟩, -⟩; refine Z0b (D := [(130, vs 5), (135, vs 10)]) rfl ?_; rw [c9, f2]; refine Z0x rfl rfl rfl rfl rfl ?_; refine Z02 ?_; exact Z0u rfl ⟨rfl, rfl⟩ (Z05 _) (by show [(130, vs 5), (135, vs 10)] = _; rw [c9, f2])
            · rintro vs es Es Hx ⟨⟨f3, j4⟩, -⟩; refine Z0b (D := [(136, vs 11)]) rfl ?_; rw [f3]; refine Z06 rfl rfl rfl rfl ?_; refine Z0v (t := 137) (b' := true) rfl (decide_eq_true p3) ?_; refine Z02 ?_; exact Z8o rfl ⟨rfl, rfl⟩ (Z05 _) (by show [(136, vs 11)] = _; rw [f3])
            · rintro vs es Es Hx ⟨⟨a3, b6⟩, -⟩; refine Z0b (D := [(137, vs 12)]) rfl ?_; rw [a3]; refine Z0m rfl rfl rfl rfl Z0t mm2 rfl ?_; refine Z02 ?_; exact Z0u rfl ⟨rfl, rfl⟩ (Z05 _) (by show [(137, vs 12)] = _; rw [a3])
            · rintro vs es Es Hx hb ⟨⟨a3, b6⟩, -⟩ hHR; obtain rfl : hb = [(a4, .cells (arr (intC .i64) a8 b7).toArray 2 (0, 0))] := hHR; refine Z0b (D := [(137, vs 12)]) rfl ?_; rw [a3]; refine Z06 rfl rfl rfl rfl ?_; refine Z02 ?_; exact Zfg (hb' := []) (e' := [(a4, .cells (arr (intC .i64) a8 b7).toArray 2 (0, 0))]) rfl ⟨rfl, rfl⟩ rfl (by repeat (first | exact Z05 _ | exact Z08 | apply Pick.none | refine Z03 (by repeat (first | exact Take.head _ _ | apply Take.tail)) ?_)) (by show [(137, vs 12)] = _; rw [a3])
            · rintro vs es Es Hx ⟨⟨a3, b6⟩, -⟩; refine Z0b (D := [(137, vs 12)]) rfl ?_; rw [a3]; refine Z0n [.int .i64 0] [0] rfl rfl rfl rfl Z1a Z1h Z3x rfl rfl (by simp only [Z1n, setCells, Value.cells, List.toList_toArray, List.getD_cons_zero, List.getD_cons_succ, List.set_cons_zero, List.set_cons_succ]; rfl) (by kernel_rfl) ?_; intro e0; refine Z02 ?_; exact Z0u rfl ⟨e0, rfl, rfl⟩ (by repeat (first | exact Z05 _ | exact Z08 | apply Pick.none | refine Z03 (by repeat (first | exact Take.head _ _ | apply Take.tail)) ?_)) (by show [(137, vs 12)] = _; rw [a3])
            · rintro vs es Es Hx ⟨⟨a3, b6⟩, ⟨f4, j5⟩, ⟨e0, f5, f6⟩, -⟩; refine Z0b (D := [(137, vs 12), (139, vs 14), (140, vs 15)]) rfl ?_; rw [a3, f4, f5]; refine Z16 (H := [(d9, .cells (arr boolC (a6.set r3.S.toNat false) i4).toArray 4 (0, 0)), (d7, .cells (arr boolC (a6.set r3.T.toNat true) h7).toArray 4 (0, 0)), (some b1, .cells #[.int .i64 r3.N, .int .i64 r3.S, .int .i64 r3.T, .slice (sb d1) n6 c7] 24 (0, 0)), (d1, .cells (arr Z2k r3.Arcs j8).toArray 35 (0, 0)), (a9, .cells (arr boolC a6 d6).toArray 4 (0, 0))] ++ ([(a4, .cells (arr (intC .i64) a8 b7).toArray 2 (0, 0)), (some e0, .cells (arr (intC .i64) ([0]) ([])).toArray 2 (0, 0))] ++ Hx)) (by show _ ++ ((es 12 ++ (es 14 ++ (es 15 ++ ([])))) ++ _) = _; rw [b6, j5, f6]; rfl) ?_; refine Zdf (f := (intC .i64)) (s := 1) (xs := a8) (ob := a4) (j := b7) (ys := [0]) (fun _ => rfl) (fun _ => rfl) Z4e p7 rfl rfl rfl rfl rfl tk5 d0 e2 n7 e3 (fun wc hwc => (hwc.rs (f := (intC .i64)) (s := 1) (xs := [0]) (j := ([])) (fun _ => rfl) mm6 rfl (Nat.le_refl _) Z1g)) ?_; intro a5 d4 b5 c3 d8 c4 a2 d3; refine Z02 ?_; exact Z0u rfl ⟨a5, d4, b5, a2, rfl, rfl, c3, d8, c4, d3⟩ (by show Pick (_ ++ (_ ++ ((es 12 ++ (es 15 ++ ([]))) ++ _))) _; rw [b6, f6]; exact (by repeat (first | exact Z05 _ | exact Z08 | apply Pick.none | refine Z03 (by repeat (first | exact Take.head _ _ | apply Take.tail)) ?_))) (by show [(137, vs 12), (139, vs 14), (140, vs 15)] = _; rw [a3, f4, f5])
            · rintro vs es Es Hx ⟨⟨a3, b6⟩, -⟩; refine Z0b (D := [(137, vs 12)]) rfl ?_; rw [a3]; refine Z06 rfl rfl rfl rfl ?_; refine Z02 ?_; exact Z0u rfl ⟨rfl, rfl⟩ (Z05 _) (by show [(137, vs 12)] = _; rw [a3])
            · rintro vs es Es Hx ⟨⟨a3, b6⟩, ⟨f7, f8⟩, ⟨a5, d4, b5, a2, b8, b9, c3, d8, c4, d3⟩, ⟨f9, g0⟩, -⟩; refine Z0b (D := [(137, vs 12), (138, vs 13), (141, vs 16), (142, vs 17)]) rfl ?_; rw [a3, f7, b8, f9]; refine Z16 (H := [(d9, .cells (arr boolC (a6.set r3.S.toNat false) i4).toArray 4 (0, 0)), (d7, .cells (arr boolC (a6.set r3.T.toNat true) h7).toArray 4 (0, 0)), (some b1, .cells #[.int .i64 r3.N, .int .i64 r3.S, .int .i64 r3.T, .slice (sb d1) n6 c7] 24 (0, 0)), (d1, .cells (arr Z2k r3.Arcs j8).toArray 35 (0, 0)), (a9, .cells (arr boolC a6 d6).toArray 4 (0, 0))] ++ ([(a5, .cells (arr (intC .i64) (a8 ++ ([0])) b5).toArray 2 (0, 0)), (a2, .cells (arr (intC .i64) a8 b7).toArray 2 (0, 0))] ++ Hx)) (by show _ ++ ((es 12 ++ (es 13 ++ (es 16 ++ (es 17 ++ ([]))))) ++ _) = _; rw [b6, f8, b9, g0]; rfl) ?_; refine Z0l Z0w rfl rfl rfl rfl (fun wc hwc => Z12 (n0 := r3) (f1 := (a8 ++ ([0]))) (s2 := a6) wc (hwc.rs (f := Z2k) (s := 3) (xs := r3.Arcs) (j := j8) (fun _ => rfl) mm3 k7 e6 e7) (hwc.rs (f := (intC .i64)) (s := 1) (xs := (a8 ++ ([0]))) (j := b5) (fun _ => rfl) mm5 (Z7o d0 rfl) c3 c4) (hwc.rs (f := boolC) (s := 1) (xs := a6) (j := d6) (fun _ => rfl) mm4 e1 k8 k9) p8) ?_; rintro _ _ ⟨rfl, rfl⟩; refine Z02 ?_; exact Z0u rfl ⟨rfl, rfl⟩ (by show Pick (_ ++ (_ ++ ((es 12 ++ (es 13 ++ (es 16 ++ (es 17 ++ ([]))))) ++ _))) _; rw [b6, f8, b9, g0]; exact (by repeat (first | exact Z05 _ | exact Z08 | apply Pick.none | refine Z03 (by repeat (first | exact Take.head _ _ | apply Take.tail)) ?_))) (by show [(137, vs 12), (138, vs 13), (141, vs 16), (142, vs 17)] = _; rw [a3, f7, b8, f9])
            · rintro vs es Es Hx ⟨⟨a3, b6⟩, ⟨g1, j6⟩, -⟩; refine Z0b (D := [(137, vs 12), (143, vs 18)]) rfl ?_; rw [a3, g1]; refine Z0s rfl rfl rfl rfl rfl rfl ?_; refine Z02 ?_; exact Z0u rfl ⟨rfl, rfl⟩ (Z05 _) (by show [(137, vs 12), (143, vs 18)] = _; rw [a3, g1])
            · rintro vs es Es Hx ⟨⟨a3, b6⟩, ⟨g2, j7⟩, -⟩; refine Z0b (D := [(137, vs 12), (144, vs 19)]) rfl ?_; rw [a3, g2]; refine Z0x rfl rfl rfl rfl rfl ?_; refine Z02 ?_; exact Z0u rfl ⟨rfl, rfl⟩ (Z05 _) (by show [(137, vs 12), (144, vs 19)] = _; rw [a3, g2])
            · rintro vs es Es Hx ⟨⟨g3, j9⟩, -⟩; refine Z0b (D := [(145, vs 20)]) rfl ?_; rw [g3]; refine Z06 rfl rfl rfl rfl ?_; refine Z0v (t := 146) (b' := false) rfl (decide_eq_false p6) ?_; refine Z02 ?_; exact Z8o rfl ⟨rfl, rfl⟩ (Z05 _) (by show [(145, vs 20)] = _; rw [g3])
            · rintro vs es Es Hx ⟨⟨a7, c8⟩, -⟩; refine Z0b (D := [(146, vs 21)]) rfl ?_; rw [a7]; refine Z0c rfl rfl rfl rfl ?_; refine Z02 ?_; exact Z0u rfl ⟨rfl, rfl⟩ (Z05 _) (by show [(146, vs 21)] = _; rw [a7])
            · rintro vs es Es Hx ⟨⟨a5, d4, b5, a2, b8, b9, c3, d8, c4, d3⟩, ⟨a7, c8⟩, -⟩; refine Z0b (D := [(141, vs 16), (146, vs 21)]) rfl ?_; rw [b8, a7]; refine Z16 (H := [(d9, .cells (arr boolC (a6.set r3.S.toNat false) i4).toArray 4 (0, 0)), (d7, .cells (arr boolC (a6.set r3.T.toNat true) h7).toArray 4 (0, 0)), (some b1, .cells #[.int .i64 r3.N, .int .i64 r3.S, .int .i64 r3.T, .slice (sb d1) n6 c7] 24 (0, 0)), (d1, .cells (arr Z2k r3.Arcs j8).toArray 35 (0, 0)), (a9, .cells (arr boolC a6 d6).toArray 4 (0, 0))] ++ ([(a5, .cells (arr (intC .i64) (a8 ++ ([0])) b5).toArray 2 (0, 0)), (a2, .cells (arr (intC .i64) a8 b7).toArray 2 (0, 0))] ++ Hx)) (by show _ ++ ((es 16 ++ (es 21 ++ ([]))) ++ _) = _; rw [b9, c8]; rfl) ?_; refine Z0c rfl rfl rfl rfl ?_; refine Z02 ?_; exact Z0u rfl ⟨rfl, rfl⟩ (by show Pick (_ ++ (_ ++ ((es 16 ++ (es 21 ++ ([]))) ++ _))) _; rw [b9, c8]; exact (by repeat (first | exact Z05 _ | exact Z08 | apply Pick.none | refine Z03 (by repeat (first | exact Take.head _ _ | apply Take.tail)) ?_))) (by show [(141, vs 16), (146, vs 21)] = _; rw [b8, a7])
            · rintro vs es Es Hx ⟨⟨a7, c8⟩, -⟩; refine Z0b (D := [(146, vs 21)]) rfl ?_; rw [a7]; refine Z0c rfl rfl rfl rfl ?_; refine Z02 ?_; exact Z0u rfl ⟨rfl, rfl⟩ (Z05 _) (by show [(146, vs 21)] = _; rw [a7])
            · rintro vs es Es Hx ⟨⟨a7, c8⟩, ⟨g4, k1⟩, -⟩; refine Z0b (D := [(146, vs 21), (149, vs 24)]) rfl ?_; rw [a7, g4]; refine Z0c rfl rfl rfl rfl ?_; refine Z02 ?_; exact Z0u rfl ⟨rfl, rfl⟩ (Z05 _) (by show [(146, vs 21), (149, vs 24)] = _; rw [a7, g4])
            · rintro vs es Es Hx ⟨⟨a7, c8⟩, ⟨g5, h4⟩, ⟨g6, h5⟩, ⟨g7, h6⟩, -⟩; refine Z0b (D := [(146, vs 21), (147, vs 22), (148, vs 23), (150, vs 25)]) rfl ?_; rw [a7, g5, g6, g7]; refine Z0c rfl rfl rfl rfl ?_; refine Z02 ?_; exact Z0u rfl ⟨rfl, rfl⟩ (Z05 _) (by show [(146, vs 21), (147, vs 22), (148, vs 23), (150, vs 25)] = _; rw [a7, g5, g6, g7])
            · rintro vs es Es Hx ⟨⟨a7, c8⟩, ⟨g8, k2⟩, -⟩; refine Z0b (D := [(146, vs 21), (151, vs 26)]) rfl ?_; rw [a7, g8]; refine Z0c rfl rfl rfl rfl ?_; refine Z02 ?_; exact Z0u rfl ⟨rfl, rfl⟩ (Z05 _) (by show [(146, vs 21), (151, vs 26)] = _; rw [a7, g8])
            · rintro vs es Es Hx ⟨⟨a7, c8⟩, ⟨g9, k3⟩, -⟩; refine Z0b (D := [(146, vs 21), (152, vs 27)]) rfl ?_; rw [a7, g9]; refine Z10 rfl rfl rfl rfl rfl ?_; refine Z02 ?_; exact Z0u rfl ⟨rfl, rfl⟩ (Z05 _) (by show [(146, vs 21), (152, vs 27)] = _; rw [a7, g9])
            · rintro vs es Es Hx ⟨⟨h0, k4⟩, -⟩; refine Z0b (D := [(153, vs 28)]) rfl ?_; rw [h0]; refine Z06 rfl rfl rfl rfl ?_; refine Z02 ?_; exact Z0u rfl ⟨rfl, rfl⟩ (Z05 _) (by show [(153, vs 28)] = _; rw [h0])
            · rintro vs es Es Hx ⟨⟨b0, d5⟩, -⟩; refine Z0b (D := [(154, vs 29)]) rfl ?_; rw [b0]; refine Z0c rfl rfl rfl rfl ?_; refine Z02 ?_; exact Z0u rfl ⟨rfl, rfl⟩ (Z05 _) (by show [(154, vs 29)] = _; rw [b0])
            · rintro vs es Es Hx ⟨⟨a5, d4, b5, a2, b8, b9, c3, d8, c4, d3⟩, ⟨b0, d5⟩, -⟩; refine Z0b (D := [(141, vs 16), (154, vs 29)]) rfl ?_; rw [b8, b0]; refine Z16 (H := [(d9, .cells (arr boolC (a6.set r3.S.toNat false) i4).toArray 4 (0, 0)), (d7, .cells (arr boolC (a6.set r3.T.toNat true) h7).toArray 4 (0, 0)), (some b1, .cells #[.int .i64 r3.N, .int .i64 r3.S, .int .i64 r3.T, .slice (sb d1) n6 c7] 24 (0, 0)), (d1, .cells (arr Z2k r3.Arcs j8).toArray 35 (0, 0)), (a9, .cells (arr boolC a6 d6).toArray 4 (0, 0))] ++ ([(a5, .cells (arr (intC .i64) (a8 ++ ([0])) b5).toArray 2 (0, 0)), (a2, .cells (arr (intC .i64) a8 b7).toArray 2 (0, 0))] ++ Hx)) (by show _ ++ ((es 16 ++ (es 29 ++ ([]))) ++ _) = _; rw [b9, d5]; rfl) ?_; refine Z0c rfl rfl rfl rfl ?_; refine Z02 ?_; exact Z0u rfl ⟨rfl, rfl⟩ (by show Pick (_ ++ (_ ++ ((es 16 ++ (es 29 ++ ([]))) ++ _))) _; rw [b9, d5]; exact (by repeat (first | exact Z05 _ | exact Z08 | apply Pick.none | refine Z03 (by repeat (first | exact Take.head _ _ | apply Take.tail)) ?_))) (by show [(141, vs 16), (154, vs 29)] = _; rw [b8, b0])
            · rintro vs es Es Hx ⟨⟨b0, d5⟩, -⟩; refine Z0b (D := [(154, vs 29)]) rfl ?_; rw [b0]; refine Z0c rfl rfl rfl rfl ?_; refine Z02 ?_; exact Z0u rfl ⟨rfl, rfl⟩ (Z05 _) (by show [(154, vs 29)] = _; rw [b0])
            · rintro vs es Es Hx ⟨⟨b0, d5⟩, -⟩; refine Z0b (D := [(154, vs 29)]) rfl ?_; rw [b0]; refine Z0c rfl rfl rfl rfl ?_; refine Z02 ?_; exact Z0u rfl ⟨rfl, rfl⟩ (Z05 _) (by show [(154, vs 29)] = _; rw [b0])
            · rintro vs es Es Hx ⟨⟨b0, d5⟩, ⟨h1, k5⟩, ⟨h2, h8⟩, -⟩; refine Z0b (D := [(154, vs 29), (157, vs 32), (158, vs 33)]) rfl ?_; rw [b0, h1, h2]; refine Z0c rfl rfl rfl rfl ?_; refine Z02 ?_; exact Z0u rfl ⟨rfl, rfl⟩ (Z05 _) (by show [(154, vs 29), (157, vs 32), (158, vs 33)] = _; rw [b0, h1, h2])
           · rintro vs es hb ⟨⟨i2, l0⟩, ⟨i5, l8⟩, ⟨i1, l6⟩, ⟨i9, n5⟩, ⟨i6, l9⟩, ⟨c9, e8⟩, ⟨h3, j0⟩, ⟨j1, l7⟩, ⟨l1, n9⟩, ⟨l3, o0⟩, ⟨f2, j3⟩, ⟨f3, j4⟩, ⟨a3, b6⟩, ⟨f7, f8⟩, ⟨f4, j5⟩, ⟨e0, f5, f6⟩, ⟨a5, d4, b5, a2, b8, b9, c3, d8, c4, d3⟩, ⟨f9, g0⟩, ⟨g1, j6⟩, ⟨g2, j7⟩, ⟨g3, j9⟩, ⟨a7, c8⟩, ⟨g5, h4⟩, ⟨g6, h5⟩, ⟨g4, k1⟩, ⟨g7, h6⟩, ⟨g8, k2⟩, ⟨g9, k3⟩, ⟨h0, k4⟩, ⟨b0, d5⟩, ⟨m4, m5⟩, ⟨m6, m7⟩, ⟨h1, k5⟩, ⟨h2, h8⟩, ⟨m8, m9⟩, -⟩ hHR; obtain rfl : hb = [] := hHR; refine Z0b (D := [(125, vs 0), (126, vs 1), (127, vs 2), (128, vs 3), (129, vs 4), (130, vs 5), (131, vs 6), (132, vs 7), (133, vs 8), (134, vs 9), (135, vs 10), (136, vs 11), (137, vs 12), (138, vs 13), (139, vs 14), (140, vs 15), (141, vs 16), (142, vs 17), (143, vs 18), (144, vs 19), (145, vs 20), (146, vs 21), (147, vs 22), (148, vs 23), (149, vs 24), (150, vs 25), (151, vs 26), (152, vs 27), (153, vs 28), (154, vs 29), (155, vs 30), (156, vs 31), (157, vs 32), (158, vs 33), (159, vs 34)]) rfl ?_; refine Z16 (H := [(d9, .cells (arr boolC (a6.set r3.S.toNat false) i4).toArray 4 (0, 0)), (d7, .cells (arr boolC (a6.set r3.T.toNat true) h7).toArray 4 (0, 0)), (some b1, .cells #[.int .i64 r3.N, .int .i64 r3.S, .int .i64 r3.T, .slice (sb d1) n6 c7] 24 (0, 0)), (d1, .cells (arr Z2k r3.Arcs j8).toArray 35 (0, 0)), (a9, .cells (arr boolC a6 d6).toArray 4 (0, 0)), (some e0, .cells (arr (intC .i64) ([0]) ([])).toArray 2 (0, 0)), (a5, .cells (arr (intC .i64) (a8 ++ ([0])) b5).toArray 2 (0, 0)), (a2, .cells (arr (intC .i64) a8 b7).toArray 2 (0, 0))]) (by show _ ++ (_ ++ (es 0 ++ (es 1 ++ (es 2 ++ (es 3 ++ (es 4 ++ (es 5 ++ (es 6 ++ (es 7 ++ (es 8 ++ (es 9 ++ (es 10 ++ (es 11 ++ (es 12 ++ (es 13 ++ (es 15 ++ (es 16 ++ (es 17 ++ (es 18 ++ (es 19 ++ (es 20 ++ (es 21 ++ (es 22 ++ (es 23 ++ (es 24 ++ (es 25 ++ (es 26 ++ (es 27 ++ (es 28 ++ (es 29 ++ (es 30 ++ (es 31 ++ (es 32 ++ (es 33 ++ (es 34 ++ ([])))))))))))))))))))))))))))))))))))) = _; rw [l0, l8, l6, n5, l9, e8, j0, l7, n9, o0, j3, j4, b6, f8, f6, b9, g0, j6, j7, j9, c8, h4, h5, k1, h6, k2, k3, k4, d5, m5, m7, k5, h8, m9]; rfl) ?_; rw [i2, i5, i1, i9, i6, c9, h3, j1, l1, l3, f2, f3, a3, f7, f4, f5, b8, f9, g1, g2, g3, a7, g5, g6, g4, g7, g8, g9, h0, b0, m4, m6, h1, h2, m8]; clear m8 h2 h1 m6 m4 b0 h0 g9 g8 g7 g4 g6 g5 a7 g3 g2 g1 f9 b8 f5 f4 f7 a3 f3 f2 l3 l1 j1 h3 c9 i6 i9 i1 i5 i2 l0 l8 l6 n5 l9 e8 j0 l7 n9 o0 j3 j4 b6 f8 j5 f6 b9 g0 j6 j7 j9 c8 h4 h5 k1 h6 k2 k3 k4 d5 m5 m7 k5 h8 m9; refine Z0c rfl rfl rfl rfl ?_; refine Z0c rfl rfl rfl rfl ?_; refine Z10 rfl rfl rfl rfl rfl ?_; refine Z06 rfl rfl rfl rfl ?_; refine Z0c rfl rfl rfl rfl ?_; refine Z10 rfl rfl rfl rfl rfl ?_; refine Z07 rfl rfl rfl rfl ?_; refine Z02 ?_; refine Z01 ?_; refine Z0k (Z00 (t := 6) rfl Z0a) ?_; refine T.ret ?_; obtain rfl := ret1 H; exact Z14 rfl rfl rfl rfl (Res.tmp rfl) Z08 ⟨rfl, rfl⟩
         ·
          apply Z9f [(125, _), (126, _), (127, _), (128, _), (129, _), (130, _), (131, _), (132, _), (133, _), (134, _), (135, _), (136, _), (137, _), (138, _), (139, _), (140, _), (141, _), (142, _), (143, _), (144, _), (145, _), (146, _), (147, _), (148, _), (149, _), (150, _), (151, _), (152, _), (153, _), (154, _), (155, _), (156, _), (157, _), (158, _), (159, _)]
          · exact Z4l
          · kernel_rfl
          · kernel_rfl
          · exact rfl
          · exact rfl
          ·
           refine ⟨?_, ?_, ?_, ?_, ?_, ?_, ?_, ?_, ?_, ?_, ?_, ?_, ?_, ?_, ?_, ?_, ?_, ?_, ?_, ?_, ?_, ?_, ?_, ?_, ?_, ?_, ?_, ?_, ?_, ?_, ?_, ?_, ?_, ?_, ?_, trivial⟩
           · intro Es; refine Z0m rfl rfl rfl rfl Z0t mm2 rfl ?_; exact Z02 (Z2l rfl (Z05 _))
           · intro Es; refine Z06 rfl rfl rfl rfl ?_; exact Z02 (Z2l rfl (Z05 _))
           · intro Es; refine Z06 rfl rfl rfl rfl ?_; exact Z02 (Z2l rfl (Z05 _))
           · intro Es; refine Z0l Z0w rfl rfl rfl rfl (fun wc hwc => Z12 (n0 := r3) (f1 := a8) (s2 := (a6.set r3.T.toNat true)) wc (hwc.rs (f := Z2k) (s := 3) (xs := r3.Arcs) (j := j8) (fun _ => rfl) mm3 k7 e6 e7) (hwc.rs (f := (intC .i64)) (s := 1) (xs := a8) (j := b7) (fun _ => rfl) mm4 d0 e2 e3) (hwc.rs (f := boolC) (s := 1) (xs := (a6.set r3.T.toNat true)) (j := h7) (fun _ => rfl) mm1 (List.length_set.trans (Z3h e1)) o2 o4) p2) ?_; rintro _ _ ⟨rfl, rfl⟩; exact Z02 (Z2l rfl (Z05 _))
           · intro Es; refine Z0s rfl rfl rfl rfl rfl rfl ?_; exact Z02 (Z2l rfl (Z05 _))
           · intro Es; refine Z06 rfl rfl rfl rfl ?_; refine Z0v (t := 130) (b' := true) rfl (decide_eq_true p1) ?_; exact Z02 (Zj7 rfl (Z05 _))
           · intro Es; refine Z0m rfl rfl rfl rfl Z0t mm2 rfl ?_; exact Z02 (Z2l rfl (Z05 _))
           · intro Es; refine Z06 rfl rfl rfl rfl ?_; exact Z02 (Z2l rfl (Z05 _))
           · intro Es; refine Z06 rfl rfl rfl rfl ?_; exact Z02 (Z2l rfl (Z05 _))
           · intro Es; refine Z0l Z0w rfl rfl rfl rfl (fun wc hwc => Z12 (n0 := r3) (f1 := a8) (s2 := (a6.set r3.S.toNat false)) wc (hwc.rs (f := Z2k) (s := 3) (xs := r3.Arcs) (j := j8) (fun _ => rfl) mm3 k7 e6 e7) (hwc.rs (f := (intC .i64)) (s := 1) (xs := a8) (j := b7) (fun _ => rfl) mm4 d0 e2 e3) (hwc.rs (f := boolC) (s := 1) (xs := (a6.set r3.S.toNat false)) (j := i4) (fun _ => rfl) mm0 (List.length_set.trans (Z3h e1)) o9 p0) p5) ?_; rintro _ _ ⟨rfl, rfl⟩; exact Z02 (Z2l rfl (Z05 _))
           · intro Es; refine Z0s rfl rfl rfl rfl rfl rfl ?_; exact Z02 (Z2l rfl (Z05 _))
           · intro Es; refine Z0x rfl rfl rfl rfl rfl ?_; exact Z02 (Z2l rfl (Z05 _))
           · intro Es; refine Z06 rfl rfl rfl rfl ?_; refine Z0v (t := 137) (b' := false) rfl (decide_eq_false p3) ?_; exact Z02 (Zj7 rfl (Z05 _))
           · intro Es; refine Z0c rfl rfl rfl rfl ?_; exact Z02 (Z2l rfl (Z05 _))
           · intro Es; refine Z0c rfl rfl rfl rfl ?_; exact Z02 (Z2l rfl (Z05 _))
           · intro Es; refine Z0c rfl rfl rfl rfl ?_; exact Z02 (Z2l rfl (Z05 _))
           · intro Es; refine Z0c rfl rfl rfl rfl ?_; exact Z02 (Z2l rfl (Z05 _))
           · intro Es; refine Z0c rfl rfl rfl rfl ?_; exact Z02 (Z2l rfl (Z05 _))
           · intro Es; refine Z0c rfl rfl rfl rfl ?_; exact Z02 (Z2l rfl (Z05 _))
           · intro Es; refine Z0c rfl rfl rfl rfl ?_; exact Z02 (Z2l rfl (Z05 _))
           · intro Es; refine Z10 rfl rfl rfl rfl rfl ?_; exact Z02 (Z2l rfl (Z05 _))
           · intro Es; refine Z06 rfl rfl rfl rfl ?_; exact Z02 (Z2l rfl (Z05 _))
           · intro Es; refine Z0c rfl rfl rfl rfl ?_; exact Z02 (Z2l rfl (Z05 _))
           · intro Es; refine Z0c rfl rfl rfl rfl ?_; exact Z02 (Z2l rfl (Z05 _))
           · intro Es; refine Z0c rfl rfl rfl rfl ?_; exact Z02 (Z2l rfl (Z05 _))
           · intro Es; refine Z0c rfl rfl rfl rfl ?_; exact Z02 (Z2l rfl (Z05 _))
           · intro Es; refine Z0c rfl rfl rfl rfl ?_; exact Z02 (Z2l rfl (Z05 _))
           · intro Es; refine Z0c rfl rfl rfl rfl ?_; exact Z02 (Z2l rfl (Z05 _))
           · intro Es; refine Z10 rfl rfl rfl rfl rfl ?_; exact Z02 (Z2l rfl (Z05 _))
           · intro Es; refine Z06 rfl rfl rfl rfl ?_; exact Z02 (Z2l rfl (Z05 _))
           · intro Es; refine Z0c rfl rfl rfl rfl ?_; exact Z02 (Z2l rfl (Z05 _))
           · intro Es; refine Z0c rfl rfl rfl rfl ?_; exact Z02 (Z2l rfl (Z05 _))
           · intro Es; refine Z0c rfl rfl rfl rfl ?_; exact Z02 (Z2l rfl (Z05 _))
           · intro Es; refine Z0c rfl rfl rfl rfl ?_; exact Z02 (Z2l rfl (Z05 _))
           · intro Es; refine Z0c rfl rfl rfl rfl ?_; exact Z02 (Z2l rfl (Z05 _))
          refine Z0c rfl rfl rfl rfl ?_; refine Z0c rfl rfl rfl rfl ?_; refine Z10 rfl rfl rfl rfl rfl ?_; refine Z06 rfl rfl rfl rfl ?_; refine Z0c rfl rfl rfl rfl ?_; refine Z10 rfl rfl rfl rfl rfl ?_; refine Z07 rfl rfl rfl rfl ?_; refine Z02 ?_; refine Z01 ?_; refine Z0k (Z00 (t := 6) rfl Z0a) ?_; refine T.ret ?_; obtain rfl := ret1 H; exact Z14 rfl rfl rfl rfl (Res.tmp rfl) Z08 ⟨rfl, rfl⟩
        ·
         apply Z9f [(125, _), (126, _), (127, _), (128, _), (129, _), (130, _), (131, _), (132, _), (133, _), (134, _), (135, _), (136, _), (137, _), (138, _), (139, _), (140, _), (141, _), (142, _), (143, _), (144, _), (145, _), (146, _), (147, _), (148, _), (149, _), (150, _), (151, _), (152, _), (153, _), (154, _), (155, _), (156, _), (157, _), (158, _), (159, _)]
         · exact Z4l
         · kernel_rfl
         · kernel_rfl
         · exact rfl
         · exact rfl
         ·
          refine ⟨?_, ?_, ?_, ?_, ?_, ?_, ?_, ?_, ?_, ?_, ?_, ?_, ?_, ?_, ?_, ?_, ?_, ?_, ?_, ?_, ?_, ?_, ?_, ?_, ?_, ?_, ?_, ?_, ?_, ?_, ?_, ?_, ?_, ?_, ?_, trivial⟩
          · intro Es; refine Z0m rfl rfl rfl rfl Z0t mm2 rfl ?_; exact Z02 (Z2l rfl (Z05 _))
          · intro Es; refine Z06 rfl rfl rfl rfl ?_; exact Z02 (Z2l rfl (Z05 _))
          · intro Es; refine Z06 rfl rfl rfl rfl ?_; exact Z02 (Z2l rfl (Z05 _))
          · intro Es; refine Z0l Z0w rfl rfl rfl rfl (fun wc hwc => Z12 (n0 := r3) (f1 := a8) (s2 := (a6.set r3.T.toNat true)) wc (hwc.rs (f := Z2k) (s := 3) (xs := r3.Arcs) (j := j8) (fun _ => rfl) mm3 k7 e6 e7) (hwc.rs (f := (intC .i64)) (s := 1) (xs := a8) (j := b7) (fun _ => rfl) mm4 d0 e2 e3) (hwc.rs (f := boolC) (s := 1) (xs := (a6.set r3.T.toNat true)) (j := h7) (fun _ => rfl) mm1 (List.length_set.trans (Z3h e1)) o2 o4) p2) ?_; rintro _ _ ⟨rfl, rfl⟩; exact Z02 (Z2l rfl (Z05 _))
          · intro Es; refine Z0s rfl rfl rfl rfl rfl rfl ?_; exact Z02 (Z2l rfl (Z05 _))
          · intro Es; refine Z06 rfl rfl rfl rfl ?_; refine Z0v (t := 130) (b' := false) rfl (decide_eq_false p1) ?_; exact Z02 (Zj7 rfl (Z05 _))
          · intro Es; refine Z0c rfl rfl rfl rfl ?_; exact Z02 (Z2l rfl (Z05 _))
          · intro Es; refine Z0c rfl rfl rfl rfl ?_; exact Z02 (Z2l rfl (Z05 _))
          · intro Es; refine Z0c rfl rfl rfl rfl ?_; exact Z02 (Z2l rfl (Z05 _))
          · intro Es; refine Z0c rfl rfl rfl rfl ?_; exact Z02 (Z2l rfl (Z05 _))
          · intro Es; refine Z0c rfl rfl rfl rfl ?_; exact Z02 (Z2l rfl (Z05 _))
          · intro Es; refine Z10 rfl rfl rfl rfl rfl ?_; exact Z02 (Z2l rfl (Z05 _))
          · intro Es; refine Z06 rfl rfl rfl rfl ?_; exact Z02 (Z2l rfl (Z05 _))
          · intro Es; refine Z0c rfl rfl rfl rfl ?_; exact Z02 (Z2l rfl (Z05 _))
          · intro Es; refine Z0c rfl rfl rfl rfl ?_; exact Z02 (Z2l rfl (Z05 _))
          · intro Es; refine Z0c rfl rfl rfl rfl ?_; exact Z02 (Z2l rfl (Z05 _))
          · intro Es; refine Z0c rfl rfl rfl rfl ?_; exact Z02 (Z2l rfl (Z05 _))
          · intro Es; refine Z0c rfl rfl rfl rfl ?_; exact Z02 (Z2l rfl (Z05 _))
          · intro Es; refine Z0c rfl rfl rfl rfl ?_; exact Z02 (Z2l rfl (Z05 _))
          · intro Es; refine Z0c rfl rfl rfl rfl ?_; exact Z02 (Z2l rfl (Z05 _))
          · intro Es; refine Z10 rfl rfl rfl rfl rfl ?_; exact Z02 (Z2l rfl (Z05 _))
          · intro Es; refine Z06 rfl rfl rfl rfl ?_; exact Z02 (Z2l rfl (Z05 _))
          · intro Es; refine Z0c rfl rfl rfl rfl ?_; exact Z02 (Z2l rfl (Z05 _))
          · intro Es; refine Z0c rfl rfl rfl rfl ?_; exact Z02 (Z2l rfl (Z05 _))
          · intro Es; refine Z0c rfl rfl rfl rfl ?_; exact Z02 (Z2l rfl (Z05 _))
          · intro Es; refine Z0c rfl rfl rfl rfl ?_; exact Z02 (Z2l rfl (Z05 _))
          · intro Es; refine Z0c rfl rfl rfl rfl ?_; exact Z02 (Z2l rfl (Z05 _))
          · intro Es; refine Z0c rfl rfl rfl rfl ?_; exact Z02 (Z2l rfl (Z05 _))
          · intro Es; refine Z10 rfl rfl rfl rfl rfl ?_; exact Z02 (Z2l rfl (Z05 _))
          · intro Es; refine Z06 rfl rfl rfl rfl ?_; exact Z02 (Z2l rfl (Z05 _))
          · intro Es; refine Z0c rfl rfl rfl rfl ?_; exact Z02 (Z2l rfl (Z05 _))
          · intro Es; refine Z0c rfl rfl rfl rfl ?_; exact Z02 (Z2l rfl (Z05 _))
          · intro Es; refine Z0c rfl rfl rfl rfl ?_; exact Z02 (Z2l rfl (Z05 _))
          · intro Es; refine Z0c rfl rfl rfl rfl ?_; exact Z02 (Z2l rfl (Z05 _))
          · intro Es; refine Z0c rfl rfl rfl rfl ?_; exact Z02 (Z2l rfl (Z05 _))
         refine Z0c rfl rfl rfl rfl ?_; refine Z0c rfl rfl rfl rfl ?_; refine Z10 rfl rfl rfl rfl rfl ?_; refine Z06 rfl rfl rfl rfl ?_; refine Z0c rfl rfl rfl rfl ?_; refine Z10 rfl rfl rfl rfl rfl ?_; refine Z07 rfl rfl rfl rfl ?_; refine Z02 ?_; refine Z01 ?_; refine Z0k (Z00 (t := 6) rfl Z0a) ?_; refine T.ret ?_; obtain rfl := ret1 H; exact Z14 rfl rfl rfl rfl (Res.tmp rfl) Z08 ⟨rfl, rfl⟩
end Go.Proofs.Ytfdhelnfgfaeaaa.Ax
namespace Go.Acq
open Go
def hit (a : Arc) (v : Nat) : Nat := if a.fr = a.to then 0 else if a.fr = v ∨ a.to = v then 1 else 0
def cnt (al : List Arc) (v : Nat) : Nat → Nat
  | 0 => 0
  | k + 1 => cnt al v k + hit (al.getD k default) v
def Z13 (al : List Arc) : Nat → Nat
  | 0 => 0
  | v + 1 => Z13 al v + cnt al v al.length
def vtx (a : Arc) (s : Bool) : Int := if s then a.to else a.fr
def pos (al : List Arc) (i : Nat) (s : Bool) : Nat := Z13 al (vtx (al.getD i default) s).toNat + cnt al (vtx (al.getD i default) s).toNat i
def Z4i (n : Nat) (al : List Arc) : Prop := ∀ i, i < al.length → ∀ s, 0 ≤ vtx (al.getD i default) s ∧ vtx (al.getD i default) s < n
theorem Zbw {α : Type} (xs : List α) (i j : Nat) (v d : α) : (xs.set i v).getD j d = if i = j ∧ i < xs.length then v else xs.getD j d := by
 rw [List.getD_eq_getElem?_getD, List.getD_eq_getElem?_getD, List.getElem?_set]
 split
 ·
  rename_i h; subst h
  split
  · rename_i h2; simp [h2]
  · rename_i h2; simp [h2]
 · rename_i h; simp [h]
theorem Z9g {α : Type} {xs : List α} {i j : Nat} {v d : α} (h : i ≠ j) : (xs.set i v).getD j d = xs.getD j d := by
 rw [Zbw, if_neg (fun e => h e.1)]
theorem Zgk {α : Type} {xs : List α} {i : Nat} {v d : α} (h : i < xs.length) : (xs.set i v).getD i d = v := by
 rw [Zbw, if_pos ⟨rfl, h⟩]
theorem Z3r {α : Type} (n j : Nat) (v : α) : (List.replicate n v).getD j v = v := by
 rw [List.getD_eq_getElem?_getD, List.getElem?_replicate]; split <;> simp
theorem hit_le (a : Arc) (v : Nat) : hit a v ≤ 1 := by unfold hit; split; omega; split <;> omega
theorem cnt_mono {al : List Arc} {v i j : Nat} (h : i ≤ j) : cnt al v i ≤ cnt al v j := by
 induction h with
 | refl => exact Nat.le_refl _
 | step _ ih => exact Nat.le_trans ih (Nat.le_add_right _ _)
theorem Zjq (al : List Arc) (v k : Nat) : cnt al v k ≤ k := by
 induction k with
 | zero => exact Nat.le_refl _
 | succ k ih => have := hit_le (al.getD k default) v; simp only [cnt]; omega
theorem Z3y {al : List Arc} {u v : Nat} (h : u ≤ v) : Z13 al u ≤ Z13 al v := by
 induction h with
 | refl => exact Nat.le_refl _
 | step _ ih => exact Nat.le_trans ih (Nat.le_add_right _ _)
theorem Zn4 (al : List Arc) (v : Nat) : Z13 al v ≤ v * al.length := by
 induction v with
 | zero => exact Nat.zero_le _
 | succ v ih => have := Zjq al v al.length; simp only [Z13, Nat.succ_mul]; omega
theorem hit_vtx {a : Arc} {s : Bool} (h : a.fr ≠ a.to) (h0 : 0 ≤ vtx a s) : hit a (vtx a s).toNat = 1 := by
 unfold hit; rw [if_neg h, if_pos]
 cases s
 · left; simp only [vtx] at h0 ⊢; simp only [Bool.false_eq_true, if_false] at h0 ⊢; omega
 · right; simp only [vtx] at h0 ⊢; simp only [if_true] at h0 ⊢; omega
theorem Zdn {al : List Arc} {i j : Nat} {s : Bool} (hij : i < j) (h : (al.getD i default).fr ≠ (al.getD i default).to) (h0 : 0 ≤ vtx (al.getD i default) s) :
    cnt al (vtx (al.getD i default) s).toNat i < cnt al (vtx (al.getD i default) s).toNat j := by
  have h1 := cnt_mono (al := al) (v := (vtx (al.getD i default) s).toNat) (i := i + 1) (j := j) hij
  have h2 := hit_vtx h h0
  simp only [cnt] at h1
  omega
theorem Zcg {al : List Arc} {n i : Nat} {s : Bool} (hi : i < al.length) (h : (al.getD i default).fr ≠ (al.getD i default).to) (he : Z4i n al) : pos al i s < Z13 al n := by
 have h1 := Zdn (s := s) hi h (he i hi s).1
 have h2 := Z3y (al := al) (u := (vtx (al.getD i default) s).toNat + 1) (v := n) (by have := he i hi s; omega)
 simp only [Z13] at h2
 unfold pos; omega
theorem Z8j {al : List Arc} {n i j : Nat} {s t : Bool} (he : Z4i n al) (hi : i < al.length) (hj : j < al.length) (h : (al.getD i default).fr ≠ (al.getD i default).to) (g : (al.getD j default).fr ≠ (al.getD j default).to)
    (e : pos al i s = pos al j t) : i = j ∧ s = t := by
  have hi1 := Zdn (s := s) hi h (he i hi s).1
  have hj1 := Zdn (s := t) hj g (he j hj t).1
  have hv : (vtx (al.getD i default) s).toNat = (vtx (al.getD j default) t).toNat := by
    rcases Nat.lt_trichotomy (vtx (al.getD i default) s).toNat (vtx (al.getD j default) t).toNat with h1 | h1 | h1
    · have := Z3y (al := al) (u := (vtx (al.getD i default) s).toNat + 1) h1
      simp only [Z13] at this
      unfold pos at e; omega
    · exact h1
    · have := Z3y (al := al) (u := (vtx (al.getD j default) t).toNat + 1) h1
      simp only [Z13] at this
      unfold pos at e; omega
  have hij : i = j := by
    rcases Nat.lt_trichotomy i j with h1 | h1 | h1
    · have h2 := Zdn (s := s) h1 h (he i hi s).1
      unfold pos at e; rw [hv] at e h2; omega
    · exact h1
    · have h2 := Zdn (s := t) h1 g (he j hj t).1
      unfold pos at e; rw [hv] at e; omega
  refine ⟨hij, ?_⟩
  subst hij
  have h1 := (he i hi s).1
  have h2 := (he i hi t).1
  cases s <;> cases t <;> first | rfl | (simp only [vtx, Bool.false_eq_true, if_false, if_true] at hv h1 h2; omega)
theorem Zjr {al : List Arc} {v r : Nat} : ∀ {k : Nat}, r < cnt al v k → ∃ i, i < k ∧ cnt al v i = r ∧ hit (al.getD i default) v = 1
 | 0, h => by simp [cnt] at h
 | k + 1, h => by
  by_cases h1 : r < cnt al v k
  · obtain ⟨i, h2, h3⟩ := Zjr h1; exact ⟨i, by omega, h3⟩
  ·
   have := hit_le (al.getD k default) v
   simp only [cnt] at h
   exact ⟨k, by omega, by omega, by omega⟩
theorem Zek {al : List Arc} {p : Nat} : ∀ {n : Nat}, p < Z13 al n → ∃ v, v < n ∧ Z13 al v ≤ p ∧ p < Z13 al (v + 1)
 | 0, h => by simp [Z13] at h
 | n + 1, h => by
  by_cases h1 : p < Z13 al n
  · obtain ⟨v, h2, h3⟩ := Zek h1; exact ⟨v, by omega, h3⟩
  · exact ⟨n, by omega, by omega, h⟩
theorem Zjh {al : List Arc} {n p : Nat} (h : p < Z13 al n) : ∃ i s, i < al.length ∧ (al.getD i default).fr ≠ (al.getD i default).to ∧ pos al i s = p ∧ 0 ≤ vtx (al.getD i default) s ∧ vtx (al.getD i default) s < n ∧
    Z13 al (vtx (al.getD i default) s).toNat ≤ p ∧ p < Z13 al ((vtx (al.getD i default) s).toNat + 1) := by
  obtain ⟨v, hv, h1, h2⟩ := Zek h
  simp only [Z13] at h2
  obtain ⟨i, hi, h3, h4⟩ := Zjr (al := al) (v := v) (r := p - Z13 al v) (k := al.length) (by omega)
  unfold hit at h4
  split at h4
  · omega
  · rename_i hne
    split at h4
    · rename_i ho
      rcases ho with ho | ho
      · refine ⟨i, false, hi, hne, ?_, ?_, ?_, ?_, ?_⟩ <;> simp only [pos, vtx, Bool.false_eq_true, if_false, ho, Int.toNat_natCast, Z13] <;> omega
      · refine ⟨i, true, hi, hne, ?_, ?_, ?_, ?_, ?_⟩ <;> simp only [pos, vtx, if_true, ho, Int.toNat_natCast, Z13] <;> omega
    · omega
def CsrAt (al : List Arc) (hs rs cs aa : List Int) (bs : List Bool) (k : Nat) : Prop :=
  ∀ i, i < k → (al.getD i default).fr ≠ (al.getD i default).to → ∀ s,
    hs.getD (pos al i s) 0 = vtx (al.getD i default) (!s) ∧ rs.getD (pos al i s) 0 = pos al i (!s) ∧ cs.getD (pos al i s) 0 = (if s then 0 else (al.getD i default).cap) ∧
    aa.getD (pos al i s) 0 = i ∧ bs.getD (pos al i s) false = s
structure CsrOK (al : List Arc) (n : Nat) (fs hs rs cs aa : List Int) (bs : List Bool) : Prop where
  lf : fs.length = n + 1
  lh : hs.length = Z13 al n
  lr : rs.length = Z13 al n
  lc : cs.length = Z13 al n
  la : aa.length = Z13 al n
  lb : bs.length = Z13 al n
  hf : ∀ v, v ≤ n → fs.getD v 0 = Z13 al v
  hat : CsrAt al hs rs cs aa bs al.length
theorem CsrAt.skip {al : List Arc} {hs rs cs aa : List Int} {bs : List Bool} {k : Nat} (h : CsrAt al hs rs cs aa bs k) (e : (al.getD k default).fr = (al.getD k default).to) : CsrAt al hs rs cs aa bs (k + 1) := by
 intro i hi hne s
 rcases Nat.lt_succ_iff_lt_or_eq.1 hi with h1 | h1
 · exact h i h1 hne s
 · subst h1; exact absurd e hne
theorem set2 {α : Type} {xs : List α} {p q j : Nat} {u v d : α} (hp : p < xs.length) (hq : q < xs.length) (hpq : p ≠ q) :
    ((xs.set p u).set q v).getD j d = if j = p then u else if j = q then v else xs.getD j d := by
  rw [Zbw, Zbw]
  by_cases h1 : j = p
  · subst h1; rw [if_pos rfl, if_neg (fun e => hpq e.1.symm), if_pos ⟨rfl, hp⟩]
  · rw [if_neg h1]
    by_cases h2 : j = q
    · subst h2; rw [if_pos rfl, if_pos ⟨rfl, by simpa using hq⟩]
    · rw [if_neg h2, if_neg (fun e => h2 e.1.symm), if_neg (fun e => h1 e.1.symm)]
theorem CsrAt.put {al : List Arc} {n : Nat} {hs rs cs aa : List Int} {bs : List Bool} {k : Nat} (h : CsrAt al hs rs cs aa bs k) (he : Z4i n al) (hk : k < al.length) (hne : (al.getD k default).fr ≠ (al.getD k default).to)
    (lh : hs.length = Z13 al n) (lr : rs.length = Z13 al n) (lc : cs.length = Z13 al n) (la : aa.length = Z13 al n) (lb : bs.length = Z13 al n) :
    CsrAt al ((hs.set (pos al k false) (al.getD k default).to).set (pos al k true) (al.getD k default).fr) ((rs.set (pos al k false) (pos al k true)).set (pos al k true) (pos al k false))
      ((cs.set (pos al k false) (al.getD k default).cap).set (pos al k true) 0) ((aa.set (pos al k false) k).set (pos al k true) k) ((bs.set (pos al k false) false).set (pos al k true) true) (k + 1) := by
  have hp : pos al k false < Z13 al n := Zcg hk hne he
  have hq : pos al k true < Z13 al n := Zcg hk hne he
  have hpq : pos al k false ≠ pos al k true := fun e => by have := (Z8j he hk hk hne hne e).2; cases this
  intro i hi hni s
  have hil : i < al.length := by omega
  rw [set2 (by omega) (by omega) hpq, set2 (by omega) (by omega) hpq, set2 (by omega) (by omega) hpq, set2 (by omega) (by omega) hpq, set2 (by omega) (by omega) hpq]
  by_cases hik : i = k
  · subst hik
    cases s
    · simp [vtx]
    · simp [vtx, hpq.symm]
  · have h1 : pos al i s ≠ pos al k false := fun e => hik (Z8j he hil hk hni hne e).1
    have h2 : pos al i s ≠ pos al k true := fun e => hik (Z8j he hil hk hni hne e).1
    simp only [if_neg h1, if_neg h2]
    exact h i (by omega) hni s
def Counted (al : List Arc) (m k : Nat) (fs : List Int) : Prop := fs.length = m + 1 ∧ fs.getD 0 0 = 0 ∧ ∀ v : Int, 0 ≤ v → v < m → fs.getD (v + 1).toNat 0 = cnt al v.toNat k
def Summed (al : List Arc) (m k : Nat) (fs : List Int) : Prop := fs.length = m + 1 ∧ (∀ u, u ≤ k → fs.getD u 0 = Z13 al u) ∧ ∀ u, k ≤ u → u < m → fs.getD (u + 1) 0 = cnt al u al.length
theorem Z6o {al : List Arc} {v : Nat} (hv : v ≤ 4096) (hl : al.length ≤ 16384) : Z13 al v ≤ 67108864 :=
 Nat.le_trans (Zn4 al v) (Nat.mul_le_mul hv hl)
theorem Zh1 (al : List Arc) (m : Nat) {p : Nat} (h : p = m + 1) : Counted al m 0 (List.replicate p 0) :=
 ⟨by simp [h], Z3r _ _ _, fun v _ _ => by rw [Z3r]; rfl⟩
theorem Counted.skip {al : List Arc} {m k : Nat} {fs : List Int} (h : Counted al m k fs) (e : (al.getD k default).fr = (al.getD k default).to) : Counted al m (k + 1) fs :=
 ⟨h.1, h.2.1, fun v h0 h1 => by rw [h.2.2 v h0 h1]; simp only [cnt, hit, if_pos e, Nat.add_zero]⟩
theorem Counted.put {al : List Arc} {m k : Nat} {fs : List Int} (h : Counted al m k fs) (he : Z4i m al) (hk : k < al.length) (hne : (al.getD k default).fr ≠ (al.getD k default).to) :
    Counted al m (k + 1) ((fs.set ((al.getD k default).fr + 1).toNat (fs.getD ((al.getD k default).fr + 1).toNat 0 + 1)).set ((al.getD k default).to + 1).toNat
      ((fs.set ((al.getD k default).fr + 1).toNat (fs.getD ((al.getD k default).fr + 1).toNat 0 + 1)).getD ((al.getD k default).to + 1).toNat 0 + 1)) := by
  have e0 := he k hk false
  have e1 := he k hk true
  simp only [vtx, Bool.false_eq_true, if_false, if_true] at e0 e1
  obtain ⟨hl, hz, hv⟩ := h
  refine ⟨by simpa using hl, ?_, ?_⟩
  · rw [Z9g (by omega), Z9g (by omega)]; exact hz
  · intro v h0 h1
    have hvv := hv v h0 h1
    rw [Z9g (i := ((al.getD k default).fr + 1).toNat) (j := ((al.getD k default).to + 1).toNat) (by omega), set2 (by omega) (by omega) (by omega)]
    simp only [cnt, hit, if_neg hne]
    by_cases a1 : v = (al.getD k default).fr
    · rw [if_pos (by omega), if_pos (by omega), ← a1, hvv]; omega
    · rw [if_neg (by omega)]
      by_cases a2 : v = (al.getD k default).to
      · rw [if_pos (by omega), if_pos (by omega), ← a2, hvv]; omega
      · rw [if_neg (by omega), if_neg (by omega), hvv]; omega
theorem Counted.summed {al : List Arc} {m : Nat} {fs : List Int} (h : Counted al m al.length fs) : Summed al m 0 fs :=
 ⟨h.1, fun u hu => by rw [Nat.le_zero.1 hu]; exact h.2.1, fun u _ hu => by have := h.2.2 u (by omega) (by omega); rw [show ((u : Int) + 1).toNat = u + 1 by omega] at this; simpa using this⟩
theorem Summed.put {al : List Arc} {m k : Nat} {fs : List Int} (h : Summed al m k fs) (hk : k < m) {i : Nat} (hi : i = k + 1) : Summed al m (k + 1) (fs.set i (fs.getD i 0 + fs.getD k 0)) := by
 subst hi
 obtain ⟨hl, h1, h2⟩ := h
 refine ⟨by simpa using hl, fun u hu => ?_, fun u h3 h4 => ?_⟩
 ·
  by_cases e : u = k + 1
  · subst e; rw [Zgk (by omega), h1 k (Nat.le_refl _), h2 k (Nat.le_refl _) hk]; simp [Z13]; omega
  · rw [Z9g (by omega)]; exact h1 u (by omega)
 · rw [Z9g (by omega)]; exact h2 u (by omega) h4
theorem Z29 {N S T : Int} {al : List Arc} (h : Z64 N S T al = 0) : (2 ≤ N ∧ N ≤ 4096) ∧ (al.length : Int) ≤ 16384 ∧ (Z44 N S = true ∧ Z44 N T = true ∧ S ≠ T) ∧ al.all (Zd8 N) = true ∧ al.all Zn1 = true ∧ (Zh3 4611686018427387904 al).isSome = true := by
 unfold Z64 at h
 split at h
 · omega
 ·
  rename_i h1
  split at h
  · omega
  ·
   rename_i h2
   split at h
   · omega
   ·
    rename_i h3
    split at h
    · omega
    ·
     rename_i h4
     split at h
     · omega
     ·
      rename_i h5
      split at h
      · omega
      ·
       rename_i h6
       refine ⟨Classical.not_not.1 h1, Classical.not_not.1 h2, Classical.not_not.1 h3, by simpa using h4, by simpa using h5, ?_⟩
       cases e : Zh3 4611686018427387904 al <;> simp_all
theorem Z73 {m : Nat} {al : List Arc} (h : al.all (Zd8 (m : Int)) = true) : Z4i m al := by
 intro i hi s
 have h1 := List.all_eq_true.1 h _ (Z9d hi default)
 simp only [Zd8, Z44, Bool.and_eq_true, decide_eq_true_eq] at h1
 cases s
 · simp only [vtx, Bool.false_eq_true, if_false]; exact h1.1
 · simp only [vtx, if_true]; exact h1.2
def MakeAt (al : List Arc) (m k : Nat) (nx hs rs cs aa : List Int) (bs : List Bool) : Prop :=
  (nx.length = m + 1 ∧ hs.length = Z13 al m ∧ rs.length = Z13 al m ∧ cs.length = Z13 al m ∧ aa.length = Z13 al m ∧ bs.length = Z13 al m) ∧
  CsrAt al hs rs cs aa bs k ∧ ∀ v : Int, 0 ≤ v → v < m → nx.getD v.toNat 0 = Z13 al v.toNat + cnt al v.toNat k
theorem Zip {al : List Arc} {m : Nat} {fs : List Int} (hl : fs.length = m + 1) (hf : ∀ u, u ≤ m → fs.getD u 0 = Z13 al u) :
    MakeAt al m 0 fs (List.replicate (Z13 al m) 0) (List.replicate (Z13 al m) 0) (List.replicate (Z13 al m) 0) (List.replicate (Z13 al m) 0) (List.replicate (Z13 al m) false) := by
  refine ⟨⟨hl, by simp, by simp, by simp, by simp, by simp⟩, fun i hi => by omega, fun v h0 h1 => ?_⟩
  rw [hf _ (by omega)]; simp [cnt]
theorem MakeAt.skip {al : List Arc} {m k : Nat} {nx hs rs cs aa : List Int} {bs : List Bool} (h : MakeAt al m k nx hs rs cs aa bs) (e : (al.getD k default).fr = (al.getD k default).to) : MakeAt al m (k + 1) nx hs rs cs aa bs :=
 ⟨h.1, h.2.1.skip e, fun v h0 h1 => by rw [h.2.2 v h0 h1]; simp only [cnt, hit, if_pos e, Nat.add_zero]⟩
theorem MakeAt.at {al : List Arc} {m k : Nat} {nx hs rs cs aa : List Int} {bs : List Bool} (h : MakeAt al m k nx hs rs cs aa bs) (he : Z4i m al) (hk : k < al.length) (s : Bool) : nx.getD (vtx (al.getD k default) s).toNat 0 = (pos al k s : Nat) := by
 rw [h.2.2 _ (he k hk s).1 (he k hk s).2]; simp only [pos]; omega
theorem MakeAt.put {al : List Arc} {m k : Nat} {nx hs rs cs aa : List Int} {bs : List Bool} (h : MakeAt al m k nx hs rs cs aa bs) (he : Z4i m al) (hk : k < al.length) (hne : (al.getD k default).fr ≠ (al.getD k default).to) :
    MakeAt al m (k + 1) ((nx.set (al.getD k default).fr.toNat ((pos al k false : Nat) + 1)).set (al.getD k default).to.toNat ((pos al k true : Nat) + 1))
      ((hs.set (pos al k false) (al.getD k default).to).set (pos al k true) (al.getD k default).fr) ((rs.set (pos al k false) (pos al k true)).set (pos al k true) (pos al k false))
      ((cs.set (pos al k false) (al.getD k default).cap).set (pos al k true) 0) ((aa.set (pos al k false) k).set (pos al k true) k) ((bs.set (pos al k false) false).set (pos al k true) true) := by
  have g0 := h.at he hk false
  have g1 := h.at he hk true
  obtain ⟨⟨l0, l1, l2, l3, l4, l5⟩, hA, hv⟩ := h
  have e0 := he k hk false
  have e1 := he k hk true
  simp only [vtx, Bool.false_eq_true, if_false, if_true] at e0 e1 g0 g1
  refine ⟨⟨by simpa using l0, by simpa using l1, by simpa using l2, by simpa using l3, by simpa using l4, by simpa using l5⟩, hA.put he hk hne l1 l2 l3 l4 l5, fun v h0 h1 => ?_⟩
  have hvv := hv v h0 h1
  rw [set2 (by omega) (by omega) (by omega)]
  simp only [cnt, hit, if_neg hne]
  by_cases a1 : v = (al.getD k default).fr
  · rw [if_pos (by omega), if_pos (by omega), ← g0, ← a1, hvv]; omega
  · rw [if_neg (by omega)]
    by_cases a2 : v = (al.getD k default).to
    · rw [if_pos (by omega), if_pos (by omega), ← g1, ← a2, hvv]; omega
    · rw [if_neg (by omega), if_neg (by omega), hvv]; omega
theorem MakeAt.done {al : List Arc} {m : Nat} {fs nx hs rs cs aa : List Int} {bs : List Bool} (h : MakeAt al m al.length nx hs rs cs aa bs) (hl : fs.length = m + 1) (hf : ∀ u, u ≤ m → fs.getD u 0 = Z13 al u) : CsrOK al m fs hs rs cs aa bs :=
 ⟨hl, h.1.2.1, h.1.2.2.1, h.1.2.2.2.1, h.1.2.2.2.2.1, h.1.2.2.2.2.2, hf, h.2.1⟩
end Go.Acq
namespace Go.Acq
open Go
theorem next_ne {S m : Int} (h0 : 0 ≤ S) (h1 : S < m) (h2 : 2 ≤ m) : 0 ≤ (S + 1).tmod m ∧ (S + 1).tmod m < m ∧ (S + 1).tmod m ≠ S := by
 rw [Int.tmod_eq_emod_of_nonneg (by omega)]
 refine ⟨Int.emod_nonneg _ (by omega), Int.emod_lt_of_pos _ (by omega), ?_⟩
 by_cases h : S + 1 < m
 · rw [Int.emod_eq_of_lt (by omega) h]; omega
 · rw [show S + 1 = m by omega, Int.emod_self]; omega
theorem Zk6 {x n : Int} (h : 0 ≤ x) (hn : 0 < n) : 0 ≤ x.tmod n ∧ x.tmod n < n := by
 rw [Int.tmod_eq_emod_of_nonneg h]
 exact ⟨Int.emod_nonneg _ (by omega), Int.emod_lt_of_pos _ hn⟩
def SomeAt (m : Nat) (ol : List Arc) : Prop := ∀ a, a ∈ ol → Zd8 m a = true ∧ 0 ≤ a.cap ∧ a.cap < 1125899906842624
theorem SomeAt.put {m : Nat} {ol : List Arc} {a : Arc} (h : SomeAt m ol) (h1 : 0 ≤ a.fr ∧ a.fr < m) (h2 : 0 ≤ a.to ∧ a.to < m) (h3 : 0 ≤ a.cap ∧ a.cap < 1125899906842624) : SomeAt m (ol ++ [a]) := by
 intro b hb
 rcases List.mem_append.1 hb with hb | hb
 · exact h b hb
 ·
  simp only [List.mem_singleton] at hb
  subst hb
  exact ⟨by simp [Zd8, Z44, h1, h2], h3⟩
theorem Zmg {m : Nat} {ol : List Arc} {left : Int} (h : SomeAt m ol) (hl : (ol.length : Int) * 1125899906842624 ≤ left) : (Zh3 left ol).isSome = true := by
 induction ol generalizing left with
 | nil => simp [Zh3]
 | cons a ol ih =>
  have ha := (h a (.head _)).2
  simp only [List.length_cons] at hl
  have h2 : (0 : Int) ≤ (ol.length : Int) * 1125899906842624 := by omega
  simp only [Zh3]
  rw [if_neg (by omega)]
  exact ih (fun b hb => h b (.tail _ hb)) (by omega)
theorem Zk7 {m : Nat} {S T : Int} {ol : List Arc} (hm : 2 ≤ m) (hm2 : m ≤ 4096) (hS : 0 ≤ S ∧ S < m) (hT : 0 ≤ T ∧ T < m) (hST : T ≠ S) (h : SomeAt m ol) (hl : ol.length ≤ 4096) : Z64 m S T ol = 0 := by
 have h1 : ol.all (Zd8 m) = true := List.all_eq_true.2 fun a ha => (h a ha).1
 have h2 : ol.all Zn1 = true := List.all_eq_true.2 fun a ha => by simp [Zn1, (h a ha).2.1]
 have h3 : (Zh3 4611686018427387904 ol).isSome = true := Zmg h (by omega)
 unfold Z64
 rw [if_neg (by omega), if_neg (by omega), if_neg (by simp [Z44, hS, hT, Ne.symm hST]), if_neg (by simp [h1]), if_neg (by simp [h2]), if_neg (by
  cases e : Zh3 4611686018427387904 ol with
  | none => rw [e] at h3; cases h3
  | some x => simp)]
def WithinAt (al : List Arc) (n k : Nat) (fl : List Int) : Prop := fl.length = n ∧
  (∀ i, i < k → 0 ≤ fl.getD i 0 ∧ fl.getD i 0 ≤ (al.getD i default).cap ∧ ((al.getD i default).fr = (al.getD i default).to → fl.getD i 0 = 0)) ∧ ∀ i, k ≤ i → fl.getD i 0 = 0
theorem WithinAt.start (al : List Arc) (n : Nat) : WithinAt al n 0 (List.replicate n 0) := ⟨by simp, fun i h => by omega, fun i _ => Z3r _ _ _⟩
theorem WithinAt.skip {al : List Arc} {n k : Nat} {fl : List Int} (h : WithinAt al n k fl) (hc : 0 ≤ (al.getD k default).cap) : WithinAt al n (k + 1) fl := by
 refine ⟨h.1, fun i hi => ?_, fun i hi => h.2.2 i (by omega)⟩
 rcases Nat.lt_succ_iff_lt_or_eq.1 hi with h1 | h1
 · exact h.2.1 i h1
 · subst h1; have := h.2.2 i (Nat.le_refl _); rw [this]; exact ⟨Int.le_refl _, hc, fun _ => rfl⟩
theorem WithinAt.put {al : List Arc} {n k : Nat} {fl : List Int} {v : Int} (h : WithinAt al n k fl) (hk : k < n) (h0 : 0 ≤ v) (h1 : v ≤ (al.getD k default).cap) (hne : (al.getD k default).fr ≠ (al.getD k default).to) : WithinAt al n (k + 1) (fl.set k v) := by
 refine ⟨by simpa using h.1, fun i hi => ?_, fun i hi => by rw [Z9g (by omega)]; exact h.2.2 i (by omega)⟩
 by_cases e : i = k
 · subst e; rw [Zgk (by rw [h.1]; exact hk)]; exact ⟨h0, h1, fun e => absurd e hne⟩
 · rw [Z9g (by omega)]; exact h.2.1 i (by omega)
def Zf6 (aa cs : List Int) (bs : List Bool) (fl : List Int) (j : Nat) : Prop := aa.getD j 0 < fl.length ∧ (bs.getD j false = true ∨ (0 ≤ fl.getD (aa.getD j 0).toNat 0 ∧ fl.getD (aa.getD j 0).toNat 0 ≤ cs.getD j 0))
def resV (aa cs : List Int) (bs : List Bool) (fl : List Int) (j : Nat) : Int := if bs.getD j false = true then fl.getD (aa.getD j 0).toNat 0 else cs.getD j 0 - fl.getD (aa.getD j 0).toNat 0
def ResAt (aa cs : List Int) (bs : List Bool) (fl : List Int) (L k : Nat) (rl : List Int) : Prop := rl.length = L ∧ ∀ j, j < k → Zf6 aa cs bs fl j ∧ rl.getD j 0 = resV aa cs bs fl j
theorem ResAt.put {aa cs : List Int} {bs : List Bool} {fl : List Int} {L k : Nat} {rl : List Int} {v : Int} (h : ResAt aa cs bs fl L k rl) (hk : k < L) (h1 : Zf6 aa cs bs fl k) (h2 : v = resV aa cs bs fl k) : ResAt aa cs bs fl L (k + 1) (rl.set k v) := by
 refine ⟨by simpa using h.1, fun j hj => ?_⟩
 by_cases e : j = k
 · subst e; rw [Zgk (by rw [h.1]; exact hk)]; exact ⟨h1, h2⟩
 · rw [Z9g (by omega)]; exact h.2 j (by omega)
end Go.Acq
namespace Go.Acq
open Go
theorem CsrOK.place {al : List Arc} {m : Nat} {fs hs rs cs aa : List Int} {bs : List Bool} (h : CsrOK al m fs hs rs cs aa bs) {j : Nat} (hj : j < Z13 al m) :
    ∃ i s, i < al.length ∧ (al.getD i default).fr ≠ (al.getD i default).to ∧ pos al i s = j ∧ hs.getD j 0 = vtx (al.getD i default) (!s) ∧ rs.getD j 0 = pos al i (!s) ∧ cs.getD j 0 = (if s then 0 else (al.getD i default).cap) ∧ aa.getD j 0 = i ∧ bs.getD j false = s := by
  obtain ⟨i, s, hi, hne, hp, _⟩ := Zjh hj
  have := h.hat i hi hne s
  rw [hp] at this
  exact ⟨i, s, hi, hne, hp, this⟩
theorem CsrOK.aa0 {al : List Arc} {m : Nat} {fs hs rs cs aa : List Int} {bs : List Bool} (h : CsrOK al m fs hs rs cs aa bs) : ∀ j, j < Z13 al m → 0 ≤ aa.getD j 0 := by
 intro j hj
 obtain ⟨i, s, _, _, _, _, _, _, h4, _⟩ := h.place hj
 omega
end Go.Acq
namespace Go.Acq
open Go
theorem Zms {α : Type} {m : Option α} {v : α} (h : Ok m (fun a => a = v)) : m = some v := by obtain ⟨a, h1, h2⟩ := h; rw [h1, h2]
theorem Zbu {α : Type} {m : Option α} {v : α} {Q : α → Prop} (h : m = some v) (q : Q v) : Ok m Q := ⟨v, h, q⟩
abbrev lenok (n : Nat) : Prop := n ≤ 9223372036854775807
theorem Ze8 {x n : Int} (h1 : n ≤ 4611686018427387904) : Z2a x n = some (Zem x n) := by
 unfold Z2a Zem
 by_cases h : n < 1
 · rw [if_pos h, if_pos h]
 ·
  have a1 := Int.tmod_lt_of_pos x (show 0 < n by omega)
  have a2 := Zed x (show 0 < n by omega)
  rw [if_neg h, if_neg h, Z8l (by omega), Z8l (by constructor <;> omega), Z8l (by omega)]
theorem Ze3 (n : Net) (v : Int) : Z58 n v = some (Z44 n.N v) := by
 unfold Z58 Z44
 by_cases h : 0 ≤ v <;> simp [h]
theorem s_rules4 (n : Net) (a : Arc) : Z6w n a = some (Zd8 n.N a) := by
 unfold Z6w Zd8
 rw [Ze3, Ze3]
 simp only [Option.bind_some]
 cases Z44 n.N a.fr <;> simp
theorem s_of4 (n : Net) (h : lenok n.Arcs.length) : Z4v n = some (n.Arcs.all (Zd8 n.N)) := by
 refine Zms ?_
 unfold Z4v Z1t Z23
 refine Ok.bind.2 (Ok.bind.2 (Ok.bind.2 (Zh0 (fun x => 0 ≤ x ∧ x ≤ n.Arcs.length ∧ ∀ i, i < x.toNat → Zd8 n.N (n.Arcs.getD i default) = true) (fun x => (n.Arcs.length - x).toNat) ⟨by omega, by omega, fun i hi => by omega⟩ (by unfold Z5g; omega) ?_)))
 rintro x ⟨h0, h1, h2⟩
 unfold Z1f Z4z
 refine Ok.ite.2 ⟨fun hx => ?_, fun hx => ?_⟩
 ·
  refine Ok.gd.2 ⟨(by omega), Ok.bind.2 (Ok.bind.2 (Zbu (s_rules4 _ _) (Ok.some.2 (Ok.ite.2 ⟨fun hb => ?_, fun hb => ?_⟩))))⟩
  ·
   refine Ok.some.2 (Ok.some.2 (Ok.some.2 (Ok.some.2 ?_)))
   simp only [h0, decide_true, Bool.not_true]
   refine Eq.symm (Bool.eq_false_iff.2 fun hall => ?_)
   have := List.all_eq_true.1 hall _ (Z9d (show x.toNat < n.Arcs.length by omega) default)
   rw [this] at hb; cases hb
  ·
   refine Ok.gd.2 ⟨(by omega), Ok.some.2 ⟨⟨by omega, by omega, fun i hi => ?_⟩, by omega⟩⟩
   rcases Nat.lt_or_ge i x.toNat with h3 | h3
   · exact h2 i h3
   · rw [show i = x.toNat by omega]; simpa using hb
 ·
  refine Ok.some.2 (Ok.some.2 (Ok.some.2 (Ok.some.2 ?_)))
  refine Eq.symm (List.all_eq_true.2 fun a ha => ?_)
  obtain ⟨i, hi, rfl⟩ := List.getElem_of_mem ha
  have := h2 i (by omega)
  rwa [List.getD_eq_getElem?_getD, List.getElem?_eq_getElem hi] at this
theorem s_of5 (n : Net) (h : lenok n.Arcs.length) : Z4u n = some (n.Arcs.all Zn1) := by
 refine Zms ?_
 unfold Z4u Z1s Z22
 refine Ok.bind.2 (Ok.bind.2 (Ok.bind.2 (Zh0 (fun x => 0 ≤ x ∧ x ≤ n.Arcs.length ∧ ∀ i, i < x.toNat → Zn1 (n.Arcs.getD i default) = true) (fun x => (n.Arcs.length - x).toNat) ⟨by omega, by omega, fun i hi => by omega⟩ (by unfold Z5g; omega) ?_)))
 rintro x ⟨h0, h1, h2⟩
 unfold Z1e Z4y Z81
 refine Ok.ite.2 ⟨fun hx => ?_, fun hx => ?_⟩
 ·
  refine Ok.gd.2 ⟨(by omega), Ok.bind.2 (Ok.bind.2 (Ok.some.2 (Ok.some.2 (Ok.ite.2 ⟨fun hb => ?_, fun hb => ?_⟩))))⟩
  ·
   refine Ok.some.2 (Ok.some.2 (Ok.some.2 (Ok.some.2 ?_)))
   simp only [h0, decide_true, Bool.not_true]
   refine Eq.symm (Bool.eq_false_iff.2 fun hall => ?_)
   have := List.all_eq_true.1 hall _ (Z9d (show x.toNat < n.Arcs.length by omega) default)
   simp only [Zn1] at this
   rw [this] at hb; cases hb
  ·
   refine Ok.gd.2 ⟨(by omega), Ok.some.2 ⟨⟨by omega, by omega, fun i hi => ?_⟩, by omega⟩⟩
   rcases Nat.lt_or_ge i x.toNat with h3 | h3
   · exact h2 i h3
   · rw [show i = x.toNat by omega]; simpa [Zn1] using hb
 ·
  refine Ok.some.2 (Ok.some.2 (Ok.some.2 (Ok.some.2 ?_)))
  refine Eq.symm (List.all_eq_true.2 fun a ha => ?_)
  obtain ⟨i, hi, rfl⟩ := List.getElem_of_mem ha
  have := h2 i (by omega)
  rwa [List.getD_eq_getElem?_getD, List.getElem?_eq_getElem hi] at this
theorem s_Sum (n : Net) (h : lenok n.Arcs.length) : Zan n = some (match Zh3 4611686018427387904 n.Arcs with | some l => (4611686018427387904 - l, true) | none => (0, false)) := by
 refine Zms ?_
 unfold Zan
 refine Ok.bind.2 (Zh0 (fun s => 0 ≤ s.2 ∧ s.2 ≤ n.Arcs.length ∧ 0 ≤ s.1 ∧ s.1 ≤ 4611686018427387904 ∧ Zh3 4611686018427387904 n.Arcs = Zh3 s.1 (n.Arcs.drop s.2.toNat)) (fun s => (n.Arcs.length - s.2).toNat) ⟨by simp, by simp, by simp, by simp, by simp⟩ (by unfold Z5g; simp; omega) ?_)
 rintro ⟨left, x⟩ ⟨h0, h1, h2, h3, h4⟩
 simp only at h0 h1 h2 h3 h4 ⊢
 unfold Z7j Z7k
 refine Ok.ite.2 ⟨fun hx => ?_, fun hx => ?_⟩
 ·
  rw [Zhb (by omega)] at h4
  refine Ok.gd.2 ⟨(by omega), Ok.ite.2 ⟨fun hb => ?_, fun hb => ?_⟩⟩
  ·
   rw [if_pos rfl]
   refine Ok.some.2 (Ok.some.2 ?_)
   rw [h4, if_pos (.inl hb)]
  ·
   by_cases hc : left < (n.Arcs.getD x.toNat default).cap
   ·
    rw [if_pos (decide_eq_true hc)]
    refine Ok.some.2 (Ok.some.2 ?_)
    rw [h4, if_pos (.inr hc)]
   ·
    rw [if_neg (by simpa using hc)]
    refine Ok.gd.2 ⟨(by omega), Ok.gd.2 ⟨(by omega), Ok.some.2 ⟨⟨by simp only; omega, by simp only; omega, by simp only; omega, by simp only; omega, ?_⟩, by simp only; omega⟩⟩⟩
    rw [h4, if_neg (by omega)]
    simp only
    rw [show (x + 1).toNat = x.toNat + 1 by omega]
 ·
  unfold Z99
  refine Ok.some.2 (Ok.gd.2 ⟨(by omega), Ok.some.2 ?_⟩)
  rw [h4, List.drop_eq_nil_of_le (by omega)]
  rfl
theorem Zix (n : Net) (h : lenok n.Arcs.length) : Z6f n = some (Z64 n.N n.S n.T n.Arcs) := by
 unfold Z6f Za4 Z6a Z69 Z84 Z83 Z82 Z80 Z7h
 rw [Ze3, Ze3, s_of4 n h, s_of5 n h, s_Sum n h]
 unfold Z64
 simp only [Option.bind_some]
 by_cases h1 : 2 ≤ n.N ∧ n.N ≤ 4096
 ·
  rw [if_pos h1.1, if_neg (not_not_intro h1)]
  simp only [Option.bind_some, decide_eq_true h1.2, Bool.not_true, Bool.false_eq_true, if_false]
  by_cases h2 : (n.Arcs.length : Int) ≤ 16384
  ·
   rw [if_neg (by simp [h2]), if_neg (not_not_intro h2)]
   by_cases h3 : Z44 n.N n.S = true ∧ Z44 n.N n.T = true ∧ n.S ≠ n.T
   ·
    rw [if_pos h3.1, if_pos h3.2.1, if_neg (not_not_intro h3)]
    simp only [Option.bind_some, decide_eq_true h3.2.2, Bool.not_true, Bool.false_eq_true, if_false]
    cases h4 : n.Arcs.all (Zd8 n.N)
    · simp
    ·
     cases h5 : n.Arcs.all Zn1
     · simp
     · cases h6 : Zh3 4611686018427387904 n.Arcs <;> simp
   ·
    rw [if_pos h3]
    by_cases a1 : Z44 n.N n.S = true
    ·
     by_cases a2 : Z44 n.N n.T = true
     ·
      have a3 : ¬ n.S ≠ n.T := fun e => h3 ⟨a1, a2, e⟩
      simp [a1, a2, a3]
     · simp [a1, a2]
    · simp [a1]
  · rw [if_pos (by simp [h2]), if_pos h2]
 ·
  rw [if_pos h1]
  by_cases a1 : 2 ≤ n.N
  ·
   have a2 : ¬ n.N ≤ 4096 := fun e => h1 ⟨a1, e⟩
   simp [a1, a2]
  · simp [a1]
end Go.Acq
namespace Go.Acq
open Go
set_option linter.unusedSimpArgs false
structure NetIn (n : Net) : Prop where
  nN : i64ok n.N
  nS : i64ok n.S
  nT : i64ok n.T
  arcs : ∀ a, a ∈ n.Arcs → i64ok a.fr ∧ i64ok a.to ∧ i64ok a.cap
  len : n.Arcs.length ≤ 9223372036854775807
structure Made (n : Net) (v a : Int) : Prop where
  check : Z64 n.N n.S n.T n.Arcs = 0
  rows : SomeAt n.N.toNat n.Arcs
  verts : n.N ≤ v
  arcs : (n.Arcs.length : Int) ≤ a
  ends : 2 ≤ n.N ∧ 0 ≤ n.S ∧ n.S < n.N ∧ 0 ≤ n.T ∧ n.T < n.N ∧ n.S ≠ n.T
theorem Made.nat {n : Net} {v a : Int} (h : Made n v a) : ∃ m : Nat, n.N = m ∧ SomeAt m n.Arcs := ⟨n.N.toNat, by have := h.ends.1; omega, h.rows⟩
theorem Made.caps {n : Net} {m : Nat} (h : SomeAt m n.Arcs) : ∀ i, i < n.Arcs.length → 0 ≤ (n.Arcs.getD i default).cap ∧ (n.Arcs.getD i default).cap < 1125899906842624 := fun _ hi => (h _ (Z9d hi default)).2
theorem s_Some {n : Net} {v a : Int} (h : NetIn n) (hv0 : 2 ≤ v) (hv1 : v ≤ 4096) (ha0 : 0 ≤ a) (ha1 : a ≤ 4096) : Ok (Z53 n v a) (fun r => Made r v a) := by
 have hN := Z8m (x := n.N) (n := v - 1) (by omega)
 unfold Z53
 refine Ok.gd.2 ⟨(by omega), Ok.bind.2 (Zbu (Ze8 (by omega)) (Ok.gd.2 ⟨(by omega), ?_⟩))⟩
 obtain ⟨m, hm⟩ : ∃ m : Nat, 2 + Zem n.N (v - 1) = m := ⟨(2 + Zem n.N (v - 1)).toNat, by omega⟩
 rw [hm]
 have hS := Z8m (x := n.S) (n := (m : Int)) (by omega)
 have hT := Z8m (x := n.T) (n := (m : Int)) (by omega)
 refine Ok.bind.2 (Zbu (Ze8 (by omega)) (Ok.bind.2 (Zbu (Ze8 (by omega)) ?_)))
 have key : ∀ t : Int, 0 ≤ t → t < m → t ≠ Zem n.S m → Ok (Z3e n a (Zem n.N (v - 1)) (Zem n.S m) t) (fun r => Made r v a) := by
  intro t t0 t1 t2
  unfold Z3e
  refine Ok.gd.2 ⟨(by omega), Ok.bind.2 ?_⟩
  obtain ⟨q, hq⟩ : ∃ q : Nat, min (n.Arcs.length : Int) a = q := ⟨(min (n.Arcs.length : Int) a).toNat, by omega⟩
  obtain ⟨al, hal⟩ : ∃ l, l = n.Arcs.take (q : Int).toNat := ⟨_, rfl⟩
  have hlen : al.length = q := by rw [hal, List.length_take]; omega
  have hcap : ∀ b, b ∈ al → i64ok b.cap := fun b hb => (h.arcs b (List.mem_of_mem_take (by rw [← hal]; exact hb))).2.2
  refine Z8z (fun s => ∃ k : Nat, s.2 = k ∧ k ≤ q ∧ s.1.length = k ∧ SomeAt m s.1) (fun s => (q - s.2).toNat) ⟨0, rfl, by omega, rfl, fun b hb => by cases hb⟩ (by unfold Z5g; simp only; omega) ?_
  rintro ⟨ol, x⟩ ⟨k, h1, h2, h3, h4⟩ P next exit
  simp only at h1 h2 h3 h4 next ⊢
  subst h1
  unfold Z40
  rw [hq, ← hal]
  simp only [Int.toNat_natCast]
  refine Ok.ite.2 ⟨fun hx => ?_, fun hx => ?_⟩
  ·
   have hkl : k < al.length := by omega
   have hc := hcap _ (Z9d hkl default)
   have hj : ∀ c : Int, 0 ≤ c → Ok (Z3d n a (Zem n.N (v - 1)) ol k c) P := by
    intro c hc0
    unfold Z3d
    rw [hq, ← hal, hm]
    refine Ok.bind.2 (Zbu (Ze8 (by omega)) (Ok.bind.2 (Zbu (Ze8 (by omega)) (Ok.gd.2 ⟨?_, Ok.gd.2 ⟨(by omega), Ok.some.2 (next _ ⟨k + 1, by simp, by omega, by simp [h3], ?_⟩ (by simp only; omega))⟩⟩))))
    · rw [List.length_append, h3]; simp only [List.length_cons, List.length_nil]; constructor <;> omega
    · exact h4.put (Z8m (by omega)) (Z8m (by omega)) (Zk6 hc0 (by omega))
   refine Ok.gd.2 ⟨(by omega), Ok.ite.2 ⟨fun hn => ?_, fun hn => ?_⟩⟩
   · exact Ok.gd.2 ⟨by constructor <;> omega, Ok.gd.2 ⟨by constructor <;> omega, hj (-((al.getD k default).cap + 1)) (by omega)⟩⟩
   · exact hj (al.getD k default).cap (by omega)
  ·
   refine Ok.some.2 (exit _ ?_)
   unfold Z50
   refine Ok.some.2 ?_
   rw [hm]
   exact ⟨Zk7 (by omega) (by omega) hS ⟨t0, t1⟩ t2 h4 (show ol.length ≤ 4096 by omega), by simpa using h4, by simp only; omega, by show (ol.length : Int) ≤ a; omega, ⟨by simp only; omega, hS.1, hS.2, t0, t1, fun e => t2 e.symm⟩⟩
 refine Ok.ite.2 ⟨fun he => ?_, fun he => ?_⟩
 ·
  refine Ok.gd.2 ⟨(by omega), Ok.gd.2 ⟨by omega, ?_⟩⟩
  obtain ⟨n1, n2, n3⟩ := next_ne hS.1 hS.2 (by omega)
  exact key _ n1 n2 n3
 · exact key _ hT.1 hT.2 (fun e => he e.symm)
theorem Zmj {n : Net} {m : Nat} (hN : n.N = m) (hm : m ≤ 4096) (hl : n.Arcs.length ≤ 16384) (he : Z4i m n.Arcs) :
    Ok (Z70 n) (fun fs => fs.length = m + 1 ∧ ∀ u, u ≤ m → fs.getD u 0 = Z13 n.Arcs u) := by
  unfold Z70
  simp only [hN]
  refine Ok.gd.2 ⟨(by omega), Ok.gd.2 ⟨(by omega), Ok.bind.2 (Z8z (fun s => ∃ k : Nat, s.2 = k ∧ k ≤ n.Arcs.length ∧ Counted n.Arcs m k s.1) (fun s => (n.Arcs.length - s.2).toNat) ⟨0, rfl, by omega, Zh1 n.Arcs m (by omega)⟩ (by unfold Z5g; simp only; omega) ?_)⟩⟩
  rintro ⟨fs, x⟩ ⟨k, h1, h2, h3⟩ P next exit
  simp only at h1 h2 h3 next ⊢
  subst h1
  unfold Z5l
  simp only [Int.toNat_natCast]
  refine Ok.ite.2 ⟨fun hx => ?_, fun hx => ?_⟩
  · have hkl : k < n.Arcs.length := by omega
    have hfl := h3.1
    have e0 := he k hkl false
    have e1 := he k hkl true
    simp only [vtx, Bool.false_eq_true, if_false, if_true] at e0 e1
    have c0 := h3.2.2 _ e0.1 e0.2
    have c1 := h3.2.2 _ e1.1 e1.2
    have d0 := Zjq n.Arcs (n.Arcs.getD k default).fr.toNat k
    have d1 := Zjq n.Arcs (n.Arcs.getD k default).to.toNat k
    refine Ok.gd.2 ⟨(by omega), Ok.ite.2 ⟨fun hne => ?_, fun hne => ?_⟩⟩
    · have c2 : (fs.set ((n.Arcs.getD k default).fr + 1).toNat (fs.getD ((n.Arcs.getD k default).fr + 1).toNat 0 + 1)).getD ((n.Arcs.getD k default).to + 1).toNat 0 = cnt n.Arcs (n.Arcs.getD k default).to.toNat k := by rw [Z9g (by omega)]; exact c1
      refine Ok.gd.2 ⟨(by omega), Ok.gd.2 ⟨(by omega), Ok.gd.2 ⟨(by omega), Ok.gd.2 ⟨(by omega), Ok.gd.2 ⟨(by omega), Ok.gd.2 ⟨(by simp only [List.length_set, List.length_replicate]; omega), Ok.gd.2 ⟨(by omega), Ok.gd.2 ⟨(by simp only [List.length_set, List.length_replicate]; omega), Ok.gd.2 ⟨(by omega), Ok.some.2 (next _ ⟨k + 1, by simp, by omega, ?_⟩ (by simp only; omega))⟩⟩⟩⟩⟩⟩⟩⟩⟩
      exact h3.put he hkl hne
    · refine Ok.gd.2 ⟨(by omega), Ok.some.2 (next _ ⟨k + 1, by simp, by omega, h3.skip (Classical.not_not.1 hne)⟩ (by simp only; omega))⟩
  · refine Ok.some.2 (exit _ ?_)
    have hk : k = n.Arcs.length := by omega
    subst hk
    unfold Z6e
    refine Ok.bind.2 (Z8z (fun s => ∃ v : Nat, s.2 = v ∧ v ≤ m ∧ Summed n.Arcs m v s.1) (fun s => (m - s.2).toNat) ⟨0, rfl, by omega, h3.summed⟩ (by unfold Z5g; simp only; omega) ?_)
    rintro ⟨gs, y⟩ ⟨v, g1, g2, g3⟩ P2 next2 exit2
    simp only at g1 g2 g3 next2 ⊢
    subst g1
    unfold Z5k
    simp only [hN, Int.toNat_natCast]
    have hgl := g3.1
    have b0 := g3.2.1 v (Nat.le_refl _)
    refine Ok.ite.2 ⟨fun hv => ?_, fun hv => ?_⟩
    · have b1 := g3.2.2 v (Nat.le_refl _) (by omega)
      have b2 := Z6o (al := n.Arcs) (v := v) (by omega) hl
      have b3 := Zjq n.Arcs v n.Arcs.length
      have b5 : ((v : Int) + 1).toNat = v + 1 := by omega
      simp only [b5]
      refine Ok.gd.2 ⟨(by omega), Ok.gd.2 ⟨(by omega), Ok.gd.2 ⟨(by omega), Ok.gd.2 ⟨(by omega), Ok.gd.2 ⟨(by omega), Ok.gd.2 ⟨(by omega), Ok.some.2 (next2 _ ⟨v + 1, by simp, by omega, ?_⟩ (by simp only; omega))⟩⟩⟩⟩⟩⟩
      exact g3.put (by omega) rfl
    · refine Ok.some.2 (exit2 _ ?_)
      unfold Z6d
      have : v = m := by omega
      subst this
      exact Ok.some.2 ⟨hgl, g3.2.1⟩
structure CsrIs (n : Net) (m : Nat) (c : Csr) : Prop where
  hN : c.N = m
  hS : c.S = n.S
  hT : c.T = n.T
  ok : CsrOK n.Arcs m c.First c.Head c.Rev c.Cap c.Arc c.Back
theorem s_Make {n : Net} {m : Nat} (hN : n.N = m) (hc : Z64 n.N n.S n.T n.Arcs = 0) (hl : lenok n.Arcs.length) :
    Ok (Z8a n) (fun r => CsrIs n m r.1 ∧ r.2 = 0) := by
  have hz := Z29 hc
  have hm : m ≤ 4096 := by omega
  have he : Z4i m n.Arcs := Z73 (by rw [← hN]; exact hz.2.2.2.1)
  unfold Z8a
  refine Ok.bind.2 (Zbu (Zix n hl) (Ok.ite.2 ⟨fun h => absurd hc h, fun _ => Ok.bind.2 (Ok.mono (Zmj hN hm (by omega) he) ?_)⟩))
  rintro fs ⟨hfl, hfs⟩
  simp only [hN, Int.toNat_natCast, hfs m (Nat.le_refl _)]
  have hbs := Z6o (al := n.Arcs) (v := m) hm (by omega)
  unfold Z5o
  refine Ok.gd.2 ⟨(by omega), Ok.gd.2 ⟨(by omega), Ok.gd.2 ⟨(by omega), Ok.gd.2 ⟨(by omega), Ok.gd.2 ⟨(by omega), Ok.gd.2 ⟨(by omega), Ok.bind.2 (Ok.gd.2 ⟨(by omega), Ok.some.2 (Ok.bind.2 ?_)⟩)⟩⟩⟩⟩⟩⟩
  refine Z8z (fun s => ∃ k : Nat, s.2.2.2.2.2.2 = k ∧ k ≤ n.Arcs.length ∧ MakeAt n.Arcs m k s.2.2.2.2.2.1 s.1 s.2.1 s.2.2.1 s.2.2.2.1 s.2.2.2.2.1) (fun s => (n.Arcs.length - s.2.2.2.2.2.2).toNat) ⟨0, rfl, by omega, Zip hfl hfs⟩ (by unfold Z5g; simp only; omega) ?_
  rintro ⟨hs, rs, cs, aa, bs, nx, x⟩ ⟨k, h1, h2, h3⟩ P next exit
  simp only at h1 h2 h3 next ⊢
  subst h1
  unfold Z71
  simp only [Int.toNat_natCast]
  refine Ok.ite.2 ⟨fun hx => ?_, fun hx => ?_⟩
  · have hkl : k < n.Arcs.length := by omega
    refine Ok.gd.2 ⟨(by omega), Ok.ite.2 ⟨fun heq => ?_, fun hne => ?_⟩⟩
    · exact Ok.gd.2 ⟨(by omega), Ok.some.2 (next _ ⟨k + 1, by simp, by omega, h3.skip heq⟩ (by simp only; omega))⟩
    · have e0 := he k hkl false
      have e1 := he k hkl true
      have n0 := h3.at he hkl false
      have n1 := h3.at he hkl true
      have p0 : pos n.Arcs k false < Z13 n.Arcs m := Zcg hkl hne he
      have p1 : pos n.Arcs k true < Z13 n.Arcs m := Zcg hkl hne he
      simp only [vtx, Bool.false_eq_true, if_false, if_true] at e0 e1 n0 n1
      have hh := h3
      obtain ⟨⟨l0, l1, l2, l3, l4, l5⟩, _, _⟩ := h3
      unfold Z7n
      simp only [n0, Int.toNat_natCast]
      have n2 : (nx.set (n.Arcs.getD k default).fr.toNat ((pos n.Arcs k false : Int) + 1)).getD (n.Arcs.getD k default).to.toNat 0 = (pos n.Arcs k true : Nat) := by rw [Z9g (by omega)]; exact n1
      refine Ok.bind.2 (Ok.gd.2 ⟨(by omega), Ok.gd.2 ⟨(by omega), Ok.gd.2 ⟨(by omega), Ok.gd.2 ⟨(by omega), Ok.gd.2 ⟨(by omega), Ok.gd.2 ⟨(by omega), Ok.gd.2 ⟨(by omega), Ok.gd.2 ⟨(by omega), Ok.some.2 (Ok.bind.2 ?_)⟩⟩⟩⟩⟩⟩⟩⟩)
      simp only [n2, Int.toNat_natCast]
      refine Ok.gd.2 ⟨(by simp only [List.length_set, List.length_replicate]; omega), Ok.gd.2 ⟨(by simp only [List.length_set, List.length_replicate]; omega), Ok.gd.2 ⟨(by omega), Ok.gd.2 ⟨(by simp only [List.length_set, List.length_replicate]; omega), Ok.gd.2 ⟨(by simp only [List.length_set, List.length_replicate]; omega), Ok.gd.2 ⟨(by simp only [List.length_set, List.length_replicate]; omega), Ok.gd.2 ⟨(by simp only [List.length_set, List.length_replicate]; omega), Ok.gd.2 ⟨(by simp only [List.length_set, List.length_replicate]; omega), Ok.some.2 (Ok.gd.2 ⟨(by omega), Ok.gd.2 ⟨(by simp only [List.length_set, List.length_replicate]; omega), Ok.gd.2 ⟨(by omega), Ok.some.2 (next _ ⟨k + 1, by simp, by omega, ?_⟩ (by simp only; omega))⟩⟩⟩)⟩⟩⟩⟩⟩⟩⟩⟩
      exact hh.put he hkl hne
  · refine Ok.some.2 (exit _ ?_)
    unfold Z86
    have hk : k = n.Arcs.length := by omega
    subst hk
    exact Ok.some.2 ⟨⟨hN, rfl, rfl, h3.done hfl hfs⟩, rfl⟩
theorem s_Res {c : Csr} {f : List Int} {L : Nat} (hh : c.Head.length = L) (hc : c.Cap.length = L) (ha : c.Arc.length = L) (hb : c.Back.length = L) (hL : L ≤ 67108864)
    (h0 : ∀ j, j < L → 0 ≤ c.Arc.getD j 0) (h1 : ∀ j, j < L → 0 ≤ c.Cap.getD j 0 ∧ c.Cap.getD j 0 ≤ 9223372036854775807) :
    Ok (Z9o c f) (fun r => ((∀ j, j < L → Zf6 c.Arc c.Cap c.Back f j) ∧ r.2 = 0 ∧ ResAt c.Arc c.Cap c.Back f L L r.1) ∨ ((∃ j, j < L ∧ ¬Zf6 c.Arc c.Cap c.Back f j) ∧ r = ([], 20))) := by
  unfold Z9o Z9p
  simp only [hh]
  refine Ok.bind.2 (Ok.some.2 (Ok.gd.2 ⟨(by omega), Ok.bind.2 (Z8z (fun s => ∃ k : Nat, s.2 = k ∧ k ≤ L ∧ ResAt c.Arc c.Cap c.Back f L k s.1) (fun s => (L - s.2).toNat) ⟨0, rfl, by omega, by simp, fun j hj => by omega⟩ (by unfold Z5g; simp only; omega) ?_)⟩))
  rintro ⟨rl, x⟩ ⟨k, g1, g2, g3⟩ P next exit
  simp only at g1 g2 g3 next ⊢
  subst g1
  unfold Z7m
  simp only [Int.toNat_natCast, List.length_replicate]
  have hrl := g3.1
  refine Ok.ite.2 ⟨fun hx => ?_, fun hx => ?_⟩
  · have hkl : k < L := by omega
    have a0 := h0 k hkl
    have c1 := h1 k hkl
    have bad : ¬Zf6 c.Arc c.Cap c.Back f k → P (.inr (.inl ([], 20))) := fun hr => exit _ (Ok.some.2 (.inr ⟨⟨k, hkl, hr⟩, rfl⟩))
    have step : ∀ v : Int, Zf6 c.Arc c.Cap c.Back f k → v = resV c.Arc c.Cap c.Back f k → Ok (gd (i64ok ((k : Int) + 1)) (some (.inl (rl.set k v, (k : Int) + 1)))) P := fun v hr hv =>
      Ok.gd.2 ⟨(by omega), Ok.some.2 (next _ ⟨k + 1, by simp, by omega, g3.put hkl hr hv⟩ (by simp only; omega))⟩
    refine Ok.gd.2 ⟨(by omega), Ok.ite.2 ⟨fun hk => ?_, fun hk => ?_⟩⟩
    · exact Ok.some.2 (bad fun hr => by have := hr.1; omega)
    · refine Ok.gd.2 ⟨(by omega), Ok.ite.2 ⟨fun hbk => ?_, fun hbk => ?_⟩⟩
      · exact Ok.gd.2 ⟨(by omega), Ok.gd.2 ⟨(by omega), step _ ⟨by omega, .inl hbk⟩ (by unfold resV; rw [if_pos hbk])⟩⟩
      · refine Ok.gd.2 ⟨(by omega), Ok.ite.2 ⟨fun hn => ?_, fun hn => ?_⟩⟩
        · unfold Z6m
          rw [if_pos rfl]
          exact Ok.some.2 (bad fun hr => by rcases hr.2 with h | h; exact hbk h; omega)
        · refine Ok.gd.2 ⟨(by omega), Ok.gd.2 ⟨(by omega), ?_⟩⟩
          unfold Z6m
          simp only [Int.toNat_natCast]
          refine Ok.ite.2 ⟨fun hd => ?_, fun hd => ?_⟩
          · have hd := of_decide_eq_true hd
            exact Ok.some.2 (bad fun hr => by rcases hr.2 with h | h; exact hbk h; omega)
          · have hd : ¬ c.Cap.getD k 0 < f.getD (c.Arc.getD k 0).toNat 0 := fun h => hd (decide_eq_true h)
            exact Ok.gd.2 ⟨(by omega), Ok.gd.2 ⟨(by omega), Ok.gd.2 ⟨(by omega), Ok.gd.2 ⟨(by omega), step _ ⟨by omega, .inr ⟨by omega, by omega⟩⟩ (by unfold resV; rw [if_neg hbk])⟩⟩⟩⟩
  · refine Ok.some.2 (exit _ ?_)
    unfold Z9b
    have : k = L := by omega
    subst this
    exact Ok.some.2 (.inl ⟨fun j hj => (g3.2 j hj).1, rfl, g3⟩)
end Go.Acq
namespace Go.Acq
open Go
set_option linter.unusedSimpArgs false
end Go.Acq
namespace Go.Acq
open Go
set_option linter.unusedSimpArgs false
def ex (al : List Arc) (f : List Int) (v : Int) : Nat → Int
  | 0 => 0
  | k + 1 => ex al f v k - (if (al.getD k default).fr = v then f.getD k 0 else 0) + (if (al.getD k default).to = v then f.getD k 0 else 0)
def tot (f : List Int) : Nat → Int
  | 0 => 0
  | k + 1 => tot f k + f.getD k 0
def part (al : List Arc) (f : List Int) (j : Int) : Nat → Int
  | 0 => 0
  | k + 1 => part al f j k - (if (al.getD k default).fr < j then f.getD k 0 else 0) + (if (al.getD k default).to < j then f.getD k 0 else 0)
theorem ex_le {al : List Arc} {f : List Int} (v : Int) {n : Nat} (h : ∀ i, i < n → 0 ≤ f.getD i 0) : ∀ k, k ≤ n → -tot f k ≤ ex al f v k ∧ ex al f v k ≤ tot f k
 | 0, _ => by simp [ex, tot]
 | k + 1, hk => by
  have ih := ex_le (al := al) v h k (by omega)
  have := h k hk
  simp only [ex, tot]
  split <;> split <;> omega
theorem Zhg {al : List Arc} {f : List Int} (j : Int) : ∀ k, part al f (j + 1) k = part al f j k + ex al f j k
 | 0 => by simp [part, ex]
 | k + 1 => by
  have ih := Zhg (al := al) (f := f) j k
  simp only [part, ex, ih]
  have e1 : ∀ x : Int, (if x < j + 1 then f.getD k 0 else 0) = (if x < j then f.getD k 0 else 0) + (if x = j then f.getD k 0 else 0) := fun x => by
   by_cases h1 : x < j
   · rw [if_pos h1, if_pos (by omega), if_neg (by omega)]; omega
   ·
    by_cases h2 : x = j
    · rw [if_neg h1, if_pos (by omega), if_pos h2]; omega
    · rw [if_neg h1, if_neg (by omega), if_neg h2]; omega
  rw [e1, e1]; omega
theorem Zhh {al : List Arc} {f : List Int} {m : Nat} (he : Z4i m al) : ∀ k, k ≤ al.length → part al f 0 k = 0
 | 0, _ => rfl
 | k + 1, hk => by
  have h0 := he k hk false
  have h1 := he k hk true
  simp only [vtx, Bool.false_eq_true, if_false, if_true] at h0 h1
  simp only [part, Zhh he k (by omega)]
  rw [if_neg (by omega), if_neg (by omega)]; rfl
theorem Zji {al : List Arc} {f : List Int} {m : Nat} (he : Z4i m al) : ∀ k, k ≤ al.length → part al f m k = 0
 | 0, _ => rfl
 | k + 1, hk => by
  have h0 := he k hk false
  have h1 := he k hk true
  simp only [vtx, Bool.false_eq_true, if_false, if_true] at h0 h1
  simp only [part, Zji he k (by omega)]
  rw [if_pos h0.2, if_pos h1.2]; omega
theorem Zgb {f : List Int} {n : Nat} (h : ∀ i, i < n → 0 ≤ f.getD i 0) : ∀ j k, j ≤ k → k ≤ n → tot f j ≤ tot f k
  | j, 0, hj, _ => by have : j = 0 := by omega
                      subst this; exact Int.le_refl _
  | j, k + 1, hj, hk => by
    rcases Nat.lt_or_ge j (k + 1) with h1 | h1
    · have := Zgb h j k (by omega) (by omega)
      have := h k hk
      simp only [tot]; omega
    · rw [show j = k + 1 by omega]; exact Int.le_refl _
theorem sumL_tot {f : List Int} : ∀ (al : List Arc) (left : Int) (k : Nat), (Zh3 left (al.drop k)).isSome = true → 0 ≤ left → k ≤ al.length → (∀ i, i < al.length → 0 ≤ f.getD i 0 ∧ f.getD i 0 ≤ (al.getD i default).cap) → tot f al.length - tot f k ≤ left := by
 intro al left k
 induction hn : al.length - k generalizing left k with
 | zero =>
  intro _ h0 hk _
  rw [show k = al.length by omega]; omega
 | succ n ih =>
  intro hs h0 hk hf
  have hkl : k < al.length := by omega
  rw [Zhb hkl] at hs
  by_cases hc : (al.getD k default).cap < 0 ∨ left < (al.getD k default).cap
  · rw [if_pos hc] at hs; cases hs
  ·
   rw [if_neg hc] at hs
   have := ih (left - (al.getD k default).cap) (k + 1) (by omega) hs (by omega) (by omega) hf
   have hfk := hf k hkl
   simp only [tot] at this
   omega
def FwithinP (n : Net) (f : List Int) : Prop := Z64 n.N n.S n.T n.Arcs = 0 ∧ f.length = n.Arcs.length ∧ ∀ i, i < n.Arcs.length → 0 ≤ f.getD i 0 ∧ f.getD i 0 ≤ (n.Arcs.getD i default).cap
theorem FwithinP.tot {n : Net} {f : List Int} (h : FwithinP n f) : ∀ k, k ≤ n.Arcs.length → 0 ≤ tot f k ∧ tot f k ≤ 4611686018427387904 := by
 intro k hk
 have hz := Z29 h.1
 have h1 := sumL_tot (f := f) n.Arcs 4611686018427387904 0 (by simpa using hz.2.2.2.2.2) (by omega) (by omega) h.2.2
 have h2 := Zgb (fun i hi => (h.2.2 i hi).1) k n.Arcs.length hk (Nat.le_refl _)
 have h3 := Zgb (fun i hi => (h.2.2 i hi).1) 0 k (by omega) hk
 simp only [Acq.tot] at h1 h3
 omega
theorem Zml {n : Net} {f : List Int} (hl : lenok n.Arcs.length) : Ok (Z6x n f) (fun b => b = true ↔ FwithinP n f) := by
 unfold Z6x
 refine Ok.bind.2 (Zbu (Zix n hl) (Ok.ite.2 ⟨fun h => Ok.some.2 ⟨fun h2 => (by cases h2), fun h2 => absurd h2.1 h⟩, fun h1 => Ok.ite.2 ⟨fun h => Ok.some.2 ⟨fun h2 => (by cases h2), fun h2 => absurd h2.2.1 (by omega)⟩, fun h2 => Ok.bind.2 ?_⟩⟩))
 have hz := Z29 (Classical.not_not.1 h1)
 refine Z8z (fun x => ∃ k : Nat, x = k ∧ k ≤ n.Arcs.length ∧ ∀ i, i < k → 0 ≤ f.getD i 0 ∧ f.getD i 0 ≤ (n.Arcs.getD i default).cap) (fun x => (n.Arcs.length - x).toNat) ⟨0, rfl, by omega, fun i hi => by omega⟩ (by unfold Z5g; omega) ?_
 rintro x ⟨k, rfl, hk, h3⟩ P next exit
 unfold Z5i
 simp only [Int.toNat_natCast]
 refine Ok.ite.2 ⟨fun hx => ?_, fun hx => ?_⟩
 ·
  refine Ok.gd.2 ⟨(by omega), Ok.gd.2 ⟨(by omega), Ok.ite.2 ⟨fun h => Ok.some.2 (exit _ (Ok.some.2 ⟨fun h2 => (by cases h2), fun h2 => by have := h2.2.2 k (by omega); omega⟩)), fun h4 => Ok.gd.2 ⟨(by omega), Ok.ite.2 ⟨fun h => Ok.some.2 (exit _ (Ok.some.2 ⟨fun h2 => (by cases h2), fun h2 => by have := h2.2.2 k (by omega); omega⟩)), fun h5 => Ok.gd.2 ⟨(by omega), Ok.some.2 (next _ ⟨k + 1, by simp, by omega, fun i hi => ?_⟩ (by omega))⟩⟩⟩⟩⟩⟩
  rcases Nat.lt_or_ge i k with h | h
  · exact h3 i h
  · rw [show i = k by omega]; omega
 ·
  refine Ok.some.2 (exit _ ?_)
  unfold Z6b
  exact Ok.some.2 ⟨fun _ => ⟨Classical.not_not.1 h1, by omega, fun i hi => h3 i (by omega)⟩, fun _ => rfl⟩
theorem Zj5 {b : Bool} (h : ¬(!b) = true) : b = true := by cases b; exact absurd rfl h; rfl
def AllP (n : Net) (f : List Int) (so : Int → Prop) (but : List Int) : Prop := FwithinP n f ∧ ∀ v : Nat, v < n.N.toNat → so (ex n.Arcs f v n.Arcs.length) ∨ (v : Int) ∈ but
end Go.Acq
namespace Go.Acq
open Go
set_option linter.unusedSimpArgs false
theorem Z42 {α : Type} {xs ys : List α} {d : α} {i : Nat} (h : i < xs.length) : (xs ++ ys).getD i d = xs.getD i d := by
 rw [List.getD_eq_getElem?_getD, List.getElem?_append_left h, List.getD_eq_getElem?_getD]
theorem Z9q {α : Type} {xs ys : List α} {d : α} {i : Nat} (h : xs.length ≤ i) : (xs ++ ys).getD i d = ys.getD (i - xs.length) d := by
 rw [List.getD_eq_getElem?_getD, List.getElem?_append_right h, List.getD_eq_getElem?_getD]
theorem Zd6 {α : Type} {xs : List α} {d : α} {i k : Nat} (h : i < k) : (xs.take k).getD i d = xs.getD i d := by
 simp [List.getD_eq_getElem?_getD, List.getElem?_take, h]
theorem Zkh {α : Type} {xs : List α} {d : α} {i k : Nat} : (xs.drop k).getD i d = xs.getD (k + i) d := by
 simp [List.getD_eq_getElem?_getD]
theorem Zjp {α : Type} {xs ys : List α} {d : α} {i : Nat} (h : i < xs.length) : (cpy xs ys).getD i d = if i < ys.length then ys.getD i d else xs.getD i d := by
 unfold cpy
 by_cases c : i < ys.length
 · rw [if_pos c, Z42 (by rw [List.length_take]; omega), Zd6 (by omega)]
 ·
  rw [if_neg c, Z9q (by rw [List.length_take]; omega), Zkh, List.length_take]
  congr 1; omega
theorem fdiv0 {y : Int} (h : 0 ≤ y) (h2 : y < 4294967296) : Int.fdiv y (2 ^ 32) = 0 := by
 rw [Int.fdiv_eq_ediv_of_nonneg _ (by decide)]
 exact Int.ediv_eq_zero_of_lt h (by omega)
theorem s_Mul1 {m : Int → Int → Option (Int × Int)} {y : Int} (h : 0 ≤ y) (h2 : y < 4294967296)
    (hm : m = fun x0 y1 =>
      gd (u64ok x0) <| gd (u64ok y1) <| gd (u64ok ((x0 % 4294967296) * (y1 % 4294967296))) <| gd (u64ok ((Int.fdiv x0 (2 ^ 32)) * (y1 % 4294967296))) <|
      gd (u64ok (((Int.fdiv x0 (2 ^ 32)) * (y1 % 4294967296)) + (Int.fdiv ((x0 % 4294967296) * (y1 % 4294967296)) (2 ^ 32)))) <|
      gd (u64ok (((Int.fdiv x0 (2 ^ 32)) * (y1 % 4294967296)) + (Int.fdiv ((x0 % 4294967296) * (y1 % 4294967296)) (2 ^ 32)))) <|
      gd (u64ok ((x0 % 4294967296) * (Int.fdiv y1 (2 ^ 32)))) <|
      gd (u64ok (((((Int.fdiv x0 (2 ^ 32)) * (y1 % 4294967296)) + (Int.fdiv ((x0 % 4294967296) * (y1 % 4294967296)) (2 ^ 32))) % 4294967296) + ((x0 % 4294967296) * (Int.fdiv y1 (2 ^ 32))))) <|
      gd (u64ok ((Int.fdiv x0 (2 ^ 32)) * (Int.fdiv y1 (2 ^ 32)))) <|
      gd (u64ok (((Int.fdiv x0 (2 ^ 32)) * (Int.fdiv y1 (2 ^ 32))) + (Int.fdiv (((Int.fdiv x0 (2 ^ 32)) * (y1 % 4294967296)) + (Int.fdiv ((x0 % 4294967296) * (y1 % 4294967296)) (2 ^ 32))) (2 ^ 32)))) <|
      gd (u64ok ((((Int.fdiv x0 (2 ^ 32)) * (Int.fdiv y1 (2 ^ 32))) + (Int.fdiv (((Int.fdiv x0 (2 ^ 32)) * (y1 % 4294967296)) + (Int.fdiv ((x0 % 4294967296) * (y1 % 4294967296)) (2 ^ 32))) (2 ^ 32))) + (Int.fdiv (((((Int.fdiv x0 (2 ^ 32)) * (y1 % 4294967296)) + (Int.fdiv ((x0 % 4294967296) * (y1 % 4294967296)) (2 ^ 32))) % 4294967296) + ((x0 % 4294967296) * (Int.fdiv y1 (2 ^ 32)))) (2 ^ 32)))) <|
      gd (u64ok (x0 * y1)) <|
      some (((((Int.fdiv x0 (2 ^ 32)) * (Int.fdiv y1 (2 ^ 32))) + (Int.fdiv (((Int.fdiv x0 (2 ^ 32)) * (y1 % 4294967296)) + (Int.fdiv ((x0 % 4294967296) * (y1 % 4294967296)) (2 ^ 32))) (2 ^ 32))) + (Int.fdiv (((((Int.fdiv x0 (2 ^ 32)) * (y1 % 4294967296)) + (Int.fdiv ((x0 % 4294967296) * (y1 % 4294967296)) (2 ^ 32))) % 4294967296) + ((x0 % 4294967296) * (Int.fdiv y1 (2 ^ 32)))) (2 ^ 32))), (x0 * y1))) : m 1 y = some (0, y) := by
  subst hm
  have e1 : Int.fdiv 1 (2 ^ 32) = 0 := by decide
  have e2 : Int.fdiv y (2 ^ 32) = 0 := fdiv0 h h2
  have e3 : y % 4294967296 = y := Int.emod_eq_of_lt h h2
  have e4 : (1 : Int) % 4294967296 = 1 := by decide
  have e5 : Int.fdiv 0 (2 ^ 32) = 0 := by decide
  simp only [e1, e2, e3, e4, e5, Int.one_mul, Int.zero_mul, Int.mul_zero, Int.zero_add, Int.add_zero, Int.zero_emod]
  repeat rw [Z8l (by constructor <;> omega)]
theorem s_double {v : Int} {n : Nat} {step : List Int → Int → Option ((List Int × Int) ⊕ (List Int))} (hn : n ≤ 4611686018427387904)
    (hs : step = fun xs k => if k < (xs.length : Int) then (gd (0 ≤ k ∧ k ≤ (xs.length : Int)) <| gd (0 ≤ k ∧ k ≤ (xs.length : Int)) <|
      gd (i64ok (k + ((min (xs.drop k.toNat).length (xs.take k.toNat).length : Nat) : Int))) <|
      some (.inl ((xs.take k.toNat ++ cpy (xs.drop k.toNat) (xs.take k.toNat)), (k + ((min (xs.drop k.toNat).length (xs.take k.toNat).length : Nat) : Int))))) else some (.inr xs)) :
    Ok (Z32 (fun s => step s.1 s.2) Z5g ((cpy (List.replicate n (0 : Int)) [v]), ((min (List.replicate n (0 : Int)).length [v].length : Nat) : Int))) (fun r => r = List.replicate n v) := by
  subst hs
  refine Z8z (fun s => ∃ k : Nat, s.2 = k ∧ k ≤ n ∧ (0 < n → 0 < k) ∧ s.1.length = n ∧ ∀ i, i < k → s.1.getD i 0 = v) (fun s => (n - s.2).toNat) ⟨min n 1, by simp, by omega, by omega, Zgn (by simp), fun i hi => ?_⟩ (by unfold Z5g; simp only [List.length_replicate, List.length_singleton]; omega) ?_
  · rw [Zjp (by simp; omega), if_pos (by simp; omega), show i = 0 by omega]; rfl
  rintro ⟨xs, x⟩ ⟨k, h1, hk, hk0, hl, hv⟩ P next exit
  simp only at h1 hl hv next ⊢
  subst h1
  simp only [Int.toNat_natCast, List.length_drop, List.length_take, hl]
  refine Ok.ite.2 ⟨fun hx => Ok.gd.2 ⟨(by omega), Ok.gd.2 ⟨(by omega), Ok.gd.2 ⟨by constructor <;> omega, Ok.some.2 (next _ ⟨k + min (n - k) (min k n), by simp, by omega, by omega, ?_, fun i hi => ?_⟩ (by simp only; omega))⟩⟩⟩, fun hx => Ok.some.2 (exit _ ?_)⟩
  · simp only
    rw [List.length_append, Zgn (n := n - k) (by rw [List.length_drop, hl]), List.length_take]; omega
  · simp only
    rcases Nat.lt_or_ge i k with h | h
    · rw [Z42 (by rw [List.length_take]; omega), Zd6 h]; exact hv i h
    · have e : (xs.take k).length = k := by rw [List.length_take]; omega
      rw [Z9q (by omega), e, Zjp (by rw [List.length_drop]; omega), e, if_pos (by omega), Zd6 (by omega)]
      exact hv _ (by omega)
  · exact Zb8 0 (by simp [hl]) fun i hi => by
      rw [hl] at hi
      rw [hv i (by omega), List.getD_eq_getElem?_getD, List.getElem?_replicate, if_pos hi]; rfl
theorem Zmq {al : List Arc} {i v : Nat} {s : Bool} (hi : i < al.length) (hne : (al.getD i default).fr ≠ (al.getD i default).to) (h0 : 0 ≤ vtx (al.getD i default) s) (h1 : Z13 al v ≤ pos al i s) (h2 : pos al i s < Z13 al (v + 1)) : vtx (al.getD i default) s = v ∧ pos al i s = Z13 al v + cnt al v i := by
 obtain ⟨u, hu⟩ : ∃ u : Nat, vtx (al.getD i default) s = u := ⟨(vtx (al.getD i default) s).toNat, by omega⟩
 have hcl := Zdn (s := s) hi hne h0
 have hpos : pos al i s = Z13 al u + cnt al u i := by unfold pos; rw [hu, Int.toNat_natCast]
 rw [hu, Int.toNat_natCast] at hcl
 have hb1 : Z13 al (u + 1) = Z13 al u + cnt al u al.length := rfl
 have : u = v := by
  rcases Nat.lt_trichotomy u v with h | h | h
  · have := Z3y (al := al) (show u + 1 ≤ v by omega); omega
  · exact h
  · have := Z3y (al := al) (show v + 1 ≤ u by omega); omega
 subst this
 exact ⟨hu, hpos⟩
end Go.Acq
namespace Go.Acq
open Go
set_option linter.unusedSimpArgs false
def inS (c : List Bool) (v : Int) : Bool := c.getD v.toNat false
def CutR (n : Net) (c : List Bool) : Prop := Z64 n.N n.S n.T n.Arcs = 0 ∧ (c.length : Int) = n.N ∧ inS c n.S = true ∧ inS c n.T = false
def Zht (al : List Arc) (c : List Bool) : Nat → Int
  | 0 => 0
  | k + 1 => Zht al c k + (if inS c (al.getD k default).fr = true ∧ inS c (al.getD k default).to = false then (al.getD k default).cap else 0)
def acK (al : List Arc) (f : List Int) (c : List Bool) : Nat → Int
  | 0 => 0
  | k + 1 => acK al f c k + (if inS c (al.getD k default).fr = true ∧ inS c (al.getD k default).to = false then f.getD k 0 else 0) - (if inS c (al.getD k default).fr = false ∧ inS c (al.getD k default).to = true then f.getD k 0 else 0)
def totC (al : List Arc) : Nat → Int
  | 0 => 0
  | k + 1 => totC al k + (al.getD k default).cap
theorem Zj4 {al : List Arc} {c : List Bool} (h : ∀ i, i < al.length → 0 ≤ (al.getD i default).cap) : ∀ k, k ≤ al.length → 0 ≤ Zht al c k ∧ Zht al c k ≤ totC al k
 | 0, _ => by simp [Zht, totC]
 | k + 1, hk => by
  have ih := Zj4 (c := c) h k (by omega)
  have := h k (by omega)
  simp only [Zht, totC]
  split <;> omega
theorem Zjd (al : List Arc) : ∀ k, k ≤ al.length → totC al k = tot (al.map (·.cap)) k
 | 0, _ => rfl
 | k + 1, hk => by
  simp only [totC, tot, Zjd al k (by omega)]
  rw [List.getD_eq_getElem?_getD, List.getD_eq_getElem?_getD, List.getElem?_map, List.getElem?_eq_getElem (show k < al.length by omega)]; rfl
theorem Zmw {al : List Arc} {i : Nat} (hi : i < al.length) : (al.map (·.cap)).getD i 0 = (al.getD i default).cap := by
 rw [List.getD_eq_getElem?_getD, List.getD_eq_getElem?_getD, List.getElem?_map, List.getElem?_eq_getElem hi]; rfl
theorem Zj3 {n : Net} (h : Z64 n.N n.S n.T n.Arcs = 0) (hc : ∀ i, i < n.Arcs.length → 0 ≤ (n.Arcs.getD i default).cap) : FwithinP n (n.Arcs.map (·.cap)) :=
 ⟨h, by simp, fun i hi => by rw [Zmw hi]; exact ⟨hc i hi, Int.le_refl _⟩⟩
theorem Zb9 {n : Net} (h : Z64 n.N n.S n.T n.Arcs = 0) : ∀ i, i < n.Arcs.length → 0 ≤ (n.Arcs.getD i default).cap := fun i hi => by
 have := List.all_eq_true.1 (Z29 h).2.2.2.2.1 _ (Z9d hi default)
 simpa [Zn1] using this
theorem Zcz {n : Net} (h : Z64 n.N n.S n.T n.Arcs = 0) : ∀ k, k ≤ n.Arcs.length → 0 ≤ totC n.Arcs k ∧ totC n.Arcs k ≤ 4611686018427387904 := fun k hk => by
 rw [Zjd _ k hk]
 have := (Zj3 h (Zb9 h)).tot k (by simpa using hk)
 exact this
theorem Zjo {n : Net} (h : Z64 n.N n.S n.T n.Arcs = 0) : ∃ m : Nat, n.N = m ∧ Z4i m n.Arcs := by
 have hz := Z29 h
 obtain ⟨m, hm⟩ : ∃ m : Nat, n.N = m := ⟨n.N.toNat, by omega⟩
 exact ⟨m, hm, Z73 (by rw [← hm]; exact hz.2.2.2.1)⟩
def Zdh (al : List Arc) (f : List Int) (c : List Bool) (i : Nat) : Prop :=
  (inS c (al.getD i default).fr = true → inS c (al.getD i default).to = false → (al.getD i default).cap ≤ f.getD i 0) ∧ (inS c (al.getD i default).fr = false → inS c (al.getD i default).to = true → f.getD i 0 ≤ 0)
end Go.Acq
namespace Go.Acq
open Go
set_option linter.unusedSimpArgs false
inductive Reach (G : Nat → Nat → Prop) (s : Nat) : Nat → Prop
  | refl : Reach G s s
  | step {u v : Nat} : Reach G s u → G u v → Reach G s v
theorem Reach.trans {G : Nat → Nat → Prop} {a b c : Nat} (h : Reach G a b) (g : Reach G b c) : Reach G a c := by
 induction g with
 | refl => exact h
 | step _ h2 ih => exact .step ih h2
theorem Reach.mono {G K : Nat → Nat → Prop} {a b : Nat} (h : Reach G a b) (hk : ∀ u v, G u v → K u v) : Reach K a b := by
 induction h with
 | refl => exact .refl
 | step _ h2 ih => exact .step ih (hk _ _ h2)
def tc (l : List Bool) : Nat → Nat
  | 0 => 0
  | k + 1 => tc l k + if l.getD k false = true then 1 else 0
theorem tc_le (l : List Bool) : ∀ k, tc l k ≤ k
 | 0 => Nat.le_refl _
 | k + 1 => by have := tc_le l k; simp only [tc]; split <;> omega
theorem Zh9 {l : List Bool} {i : Nat} (hi : i < l.length) (hf : l.getD i false = false) : ∀ k : Nat, tc (l.set i true) k = tc l k + (if i < k then 1 else 0)
 | 0 => by simp [tc]
 | k + 1 => by
  have ih := Zh9 hi hf k
  simp only [tc, ih, Zbw]
  by_cases c : i = k
  ·
   subst c
   rw [if_neg (show ¬ i < i by omega), if_pos (show i = i ∧ i < l.length from ⟨rfl, hi⟩), hf, if_pos rfl, if_pos (show i < i + 1 by omega)]; rfl
  ·
   rw [if_neg (show ¬(i = k ∧ i < l.length) from fun h => c h.1)]
   by_cases c2 : i < k
   · rw [if_pos c2, if_pos (show i < k + 1 by omega)]; omega
   · rw [if_neg c2, if_neg (show ¬ i < k + 1 by omega)]; omega
theorem Ziu (n : Nat) : ∀ k, tc (List.replicate n false) k = 0
 | 0 => rfl
 | k + 1 => by simp only [tc, Ziu n k, Z3r]; rfl
def g_s2 (c0 : Csr) (my : Int → Option Bool) (i25 : Int) (xs29 : List Bool) (row31 : List Int) (a41 : Int) : Option ((List Bool × List Int × Int) ⊕ (List Bool × List Int)) :=
  gd (inb i25 row31.length) <|
  gd (i64ok ((row31.getD i25.toNat 0) + 1)) <|
  gd (inb ((row31.getD i25.toNat 0) + 1) c0.First.length) <|
  if a41 < (c0.First.getD ((row31.getD i25.toNat 0) + 1).toNat 0) then
  (Option.bind (my a41) fun r46 =>
  if r46 = true then
  (gd (inb a41 c0.Head.length) <|
  Option.bind (Z8k (c0.Head.getD a41.toNat 0) xs29 row31) fun (r50, r51) =>
  gd (i64ok (a41 + 1)) <|
  some (.inl (r50, r51, (a41 + 1))))
  else
  gd (i64ok (a41 + 1)) <|
  some (.inl (xs29, row31, (a41 + 1))))
  else
  some (.inr (xs29, row31))
def g_s1 (c0 : Csr) (my : Int → Option Bool) (xs13 : List Bool) (row15 : List Int) (i25 : Int) : Option ((List Bool × List Int × Int) ⊕ (List Bool)) :=
  if i25 < (row15.length : Int) then
  (gd (inb i25 row15.length) <|
  gd (inb (row15.getD i25.toNat 0) c0.First.length) <|
  Option.bind (Z32 (fun s => g_s2 c0 my i25 s.1 s.2.1 s.2.2) Z5g (xs13, row15, (c0.First.getD (row15.getD i25.toNat 0).toNat 0))) fun (p2_0_0, p2_0_1) => gd (i64ok (i25 + 1)) <| some (.inl (p2_0_0, p2_0_1, (i25 + 1))))
  else
  some (.inr xs13)
def g_met (c0 : Csr) (from1 : Int) (my : Int → Option Bool) : Option (List Bool) :=
  gd (mkok c0.N) <|
  gd (inb from1 (List.replicate c0.N.toNat (false : Bool)).length) <|
  Option.bind (Z32 (fun s => g_s1 c0 my s.1 s.2.1 s.2.2) Z5g (((List.replicate c0.N.toNat (false : Bool)).set from1.toNat true), [from1], 0)) fun p1_0_0 => some p1_0_0
theorem g_From (c : Csr) (s : Int) (r : List Int) : Z6c c s r = g_met c s (fun a => Z7l a r) := rfl
structure MetI (G : Nat → Nat → Prop) (s m : Nat) (xs : List Bool) (row : List Int) : Prop where
  len : xs.length = m
  nat : ∀ q, q < row.length → ∃ v : Nat, row.getD q 0 = v ∧ v < m ∧ xs.getD v false = true ∧ Reach G s v
  has : ∀ v, v < m → xs.getD v false = true → ∃ q, q < row.length ∧ row.getD q 0 = (v : Int)
  cnt : row.length = tc xs m
theorem MetI.le {G : Nat → Nat → Prop} {s m : Nat} {xs : List Bool} {row : List Int} (h : MetI G s m xs row) : row.length ≤ m := by rw [h.cnt]; exact tc_le _ _
theorem MetI.put {G : Nat → Nat → Prop} {s m v : Nat} {xs : List Bool} {row : List Int} (h : MetI G s m xs row) (hv : v < m) (hf : xs.getD v false = false) (hr : Reach G s v) : MetI G s m (xs.set v true) (row ++ [(v : Int)]) := by
 have hl := h.len
 refine ⟨by simp [hl], fun q hq => ?_, fun u hu hx => ?_, ?_⟩
 ·
  rw [List.length_append, List.length_singleton] at hq
  rcases Nat.lt_or_ge q row.length with h1 | h1
  ·
   obtain ⟨u, h2, h3, h4, h5⟩ := h.nat q h1
   refine ⟨u, by rw [Z42 h1]; exact h2, h3, ?_, h5⟩
   rw [Zbw]; split
   · rfl
   · exact h4
  ·
   refine ⟨v, ?_, hv, by rw [Zbw, if_pos ⟨rfl, by omega⟩], hr⟩
   rw [Z9q h1, show q - row.length = 0 by omega]; rfl
 ·
  rw [Zbw] at hx
  by_cases c : v = u
  ·
   refine ⟨row.length, by simp, ?_⟩
   rw [Z9q (Nat.le_refl _), Nat.sub_self, ← c]; rfl
  ·
   rw [if_neg (fun h => c h.1)] at hx
   obtain ⟨q, h1, h2⟩ := h.has u hu hx
   exact ⟨q, by rw [List.length_append]; omega, by rw [Z42 h1]; exact h2⟩
 · rw [List.length_append, List.length_singleton, Zh9 (by omega) hf, if_pos hv, h.cnt]
theorem s_met {n : Net} {m s : Nat} {c : Csr} {my : Int → Option Bool} {mb : Nat → Bool} (hc : CsrIs n m c) (he : Z4i m n.Arcs) (hm : m ≤ 4096) (hl : n.Arcs.length ≤ 16384) (hs : s < m) (hmy : ∀ j : Nat, j < Z13 n.Arcs m → my j = some (mb j)) :
    Ok (g_met c s my) (fun r => r.length = m ∧ ∀ v, v < m → (r.getD v false = true ↔ Reach (fun u w => ∃ j, Z13 n.Arcs u ≤ j ∧ j < Z13 n.Arcs (u + 1) ∧ mb j = true ∧ c.Head.getD j 0 = w) s v)) := by
  obtain ⟨G, hG⟩ : ∃ G : Nat → Nat → Prop, (fun (u w : Nat) => ∃ j, Z13 n.Arcs u ≤ j ∧ j < Z13 n.Arcs (u + 1) ∧ mb j = true ∧ c.Head.getD j 0 = (w : Int)) = G := ⟨_, rfl⟩
  rw [hG]
  have hbs := Z6o (al := n.Arcs) (v := m) hm hl
  have lf := hc.ok.lf
  have lh := hc.ok.lh
  have hf := hc.ok.hf
  unfold g_met
  rw [hc.hN]
  simp only [Int.toNat_natCast]
  refine Ok.gd.2 ⟨(by omega), Ok.gd.2 ⟨by rw [List.length_replicate]; constructor <;> omega, Ok.bind.2 ?_⟩⟩
  refine Z8z (fun st => ∃ k : Nat, st.2.2 = k ∧ k ≤ st.2.1.length ∧ MetI G s m st.1 st.2.1 ∧ st.1.getD s false = true ∧ ∀ q, q < k → ∀ w, w < m → G (st.2.1.getD q 0).toNat w → st.1.getD w false = true) (fun st => (m - st.2.2).toNat)
    ⟨0, rfl, by omega, ⟨by simp, fun q hq => ?_, fun v hv hx => ?_, ?_⟩, by rw [Zbw, if_pos ⟨rfl, by simpa using hs⟩], fun q hq => by omega⟩ (by unfold Z5g; simp only; omega) ?_
  · have : q = 0 := by simp at hq; exact hq
    subst this
    exact ⟨s, rfl, hs, by rw [Zbw, if_pos ⟨rfl, by simpa using hs⟩], .refl⟩
  · rw [Zbw] at hx
    by_cases c1 : s = v
    · exact ⟨0, by simp, by rw [← c1]; rfl⟩
    · rw [if_neg (fun h => c1 h.1), Z3r] at hx; cases hx
  · rw [Zh9 (by simpa using hs) (Z3r _ _ _), Ziu, if_pos hs]; rfl
  rintro ⟨xs, row, x⟩ ⟨k, h1, hk, hI, hS, hP⟩ P next exit
  simp only at h1 hk hI hS hP next ⊢
  subst h1
  unfold g_s1
  have hle := hI.le
  simp only [Int.toNat_natCast]
  refine Ok.ite.2 ⟨fun hx => ?_, fun hx => Ok.some.2 (exit _ (Ok.some.2 ?_))⟩
  · obtain ⟨u, hu, hum, -, hur⟩ := hI.nat k (by omega)
    simp only [hu, Int.toNat_natCast, hf u (by omega)]
    refine Ok.gd.2 ⟨(by omega), Ok.gd.2 ⟨(by omega), Ok.bind.2 ?_⟩⟩
    have hmo := Z3y (al := n.Arcs) (show u ≤ u + 1 by omega)
    have hmo2 := Z3y (al := n.Arcs) (show u + 1 ≤ m by omega)
    refine Z8z (fun st => ∃ j : Nat, st.2.2 = j ∧ Z13 n.Arcs u ≤ j ∧ j ≤ Z13 n.Arcs (u + 1) ∧ MetI G s m st.1 st.2.1 ∧ st.1.getD s false = true ∧ k < st.2.1.length ∧ st.2.1.getD k 0 = u ∧ (∀ q, q < k → ∀ w, w < m → G (st.2.1.getD q 0).toNat w → st.1.getD w false = true) ∧
      ∀ i, Z13 n.Arcs u ≤ i → i < j → mb i = true → ∀ w : Nat, c.Head.getD i 0 = (w : Int) → st.1.getD w false = true) (fun st => (Z13 n.Arcs (u + 1) - st.2.2).toNat) ⟨_, rfl, Nat.le_refl _, hmo, hI, hS, by simp only; omega, hu, hP, fun i h1 h2 => by omega⟩ (by unfold Z5g; simp only; omega) ?_
    rintro ⟨ys, rw', y⟩ ⟨j, h1, hj0, hj1, hI2, hS2, hkl, hku, hP2, hA⟩ P2 next2 exit2
    simp only at h1 hI2 hS2 hkl hku hP2 hA next2 ⊢
    subst h1
    unfold g_s2
    have eu : ((u : Int) + 1).toNat = u + 1 := by omega
    have hle2 := hI2.le
    have hyl := hI2.len
    simp only [Int.toNat_natCast, hku, eu, hf (u + 1) (by omega)]
    refine Ok.gd.2 ⟨(by omega), Ok.gd.2 ⟨(by omega), Ok.gd.2 ⟨(by omega), Ok.ite.2 ⟨fun hy => ?_, fun hy => Ok.some.2 (exit2 _ ?_)⟩⟩⟩⟩
    · refine Ok.bind.2 (Zbu (hmy j (by omega)) (Ok.ite.2 ⟨fun hb => ?_, fun hb => ?_⟩))
      · obtain ⟨i, t, hi, hne, hp, q1, -, -, -, -⟩ := hc.ok.place (j := j) (by omega)
        have hv := he i hi (!t)
        obtain ⟨v, hvv⟩ : ∃ v : Nat, vtx (n.Arcs.getD i default) (!t) = v := ⟨(vtx (n.Arcs.getD i default) (!t)).toNat, by omega⟩
        rw [hvv] at q1 hv
        have hGu : G u v := by rw [← hG]; exact ⟨j, hj0, by omega, hb, q1⟩
        simp only [q1]
        refine Ok.gd.2 ⟨(by omega), Ok.bind.2 ?_⟩
        unfold Z8k
        simp only [Int.toNat_natCast]
        refine Ok.gd.2 ⟨(by omega), Ok.ite.2 ⟨fun hn => ?_, fun hn => Ok.some.2 (Ok.gd.2 ⟨(by omega), Ok.some.2 (next2 _ ⟨j + 1, by simp, by omega, by omega, hI2, hS2, hkl, hku, hP2, fun i' h1 h2 h3 w hw => ?_⟩ (by simp only; omega))⟩)⟩⟩
        · have hn' : ys.getD v false = false := by simpa using hn
          have hI3 := hI2.put (by omega) hn' (.step hur hGu)
          have up : ∀ w, ys.getD w false = true → (ys.set v true).getD w false = true := fun w hw => by
            rw [Zbw]; split
            · rfl
            · exact hw
          refine Ok.gd.2 ⟨(by omega), Ok.gd.2 ⟨?_, Ok.some.2 (Ok.gd.2 ⟨(by omega), Ok.some.2 (next2 _ ⟨j + 1, by simp, by omega, by omega, hI3, up _ hS2, by rw [List.length_append]; omega, by rw [Z42 hkl]; exact hku, fun q hq w hw hg => ?_, fun i' h1 h2 h3 w hw => ?_⟩ (by simp only; omega))⟩)⟩⟩
          · rw [List.length_append, List.length_singleton]; constructor <;> omega
          · simp only at hg ⊢
            rw [Z42 (by omega)] at hg
            exact up w (hP2 q hq w hw hg)
          · simp only
            rcases Nat.lt_or_ge i' j with h4 | h4
            · exact up w (hA i' h1 h4 h3 w hw)
            · rw [show i' = j by omega, q1] at hw
              have : v = w := by omega
              subst this
              rw [Zbw, if_pos ⟨rfl, by omega⟩]
        · simp only
          rcases Nat.lt_or_ge i' j with h4 | h4
          · exact hA i' h1 h4 h3 w hw
          · rw [show i' = j by omega, q1] at hw
            have : v = w := by omega
            subst this
            simpa using hn
      · refine Ok.gd.2 ⟨(by omega), Ok.some.2 (next2 _ ⟨j + 1, by simp, by omega, by omega, hI2, hS2, hkl, hku, hP2, fun i' h1 h2 h3 w hw => ?_⟩ (by simp only; omega))⟩
        rcases Nat.lt_or_ge i' j with h4 | h4
        · exact hA i' h1 h4 h3 w hw
        · rw [show i' = j by omega] at h3; exact absurd h3 hb
    · obtain rfl : j = Z13 n.Arcs (u + 1) := by omega
      refine Ok.gd.2 ⟨(by omega), Ok.some.2 (next _ ⟨k + 1, by simp, by simp only; omega, hI2, hS2, fun q hq w hw hg => ?_⟩ (by simp only; omega))⟩
      simp only at hg ⊢
      rcases Nat.lt_or_ge q k with h4 | h4
      · exact hP2 q h4 w hw hg
      · rw [show q = k by omega, hku, Int.toNat_natCast, ← hG] at hg
        obtain ⟨i, h5, h6, h7, h8⟩ := hg
        exact hA i h5 h6 h7 w h8
  · obtain rfl : k = row.length := by omega
    refine ⟨hI.len, fun v hv => ⟨fun hx => ?_, fun hr => ?_⟩⟩
    · obtain ⟨q, hq, hqv⟩ := hI.has v hv hx
      obtain ⟨u, h1, h2, h3, h4⟩ := hI.nat q hq
      have : u = v := by omega
      subst this; exact h4
    · clear hv
      have : v < m ∧ xs.getD v false = true := by
        induction hr with
        | refl => exact ⟨hs, hS⟩
        | step _ hg ih =>
          obtain ⟨h1, h2⟩ := ih
          rename_i u w _
          have hw : w < m := by
            rw [← hG] at hg
            obtain ⟨i, h5, h6, h7, h8⟩ := hg
            have := Z3y (al := n.Arcs) (show u + 1 ≤ m by omega)
            obtain ⟨i', t, hi, hne, hp, q1, -, -, -, -⟩ := hc.ok.place (j := i) (by omega)
            have hv := he i' hi (!t)
            omega
          obtain ⟨q, hq, hqv⟩ := hI.has u h1 h2
          refine ⟨hw, hP q hq w hw ?_⟩
          rw [hqv, Int.toNat_natCast]; exact hg
      exact this.2
def Zc9 (n : Net) (f : List Int) (u v : Nat) : Prop := ∃ i, i < n.Arcs.length ∧ (n.Arcs.getD i default).fr ≠ (n.Arcs.getD i default).to ∧
  (((n.Arcs.getD i default).fr = u ∧ (n.Arcs.getD i default).to = v ∧ f.getD i 0 < (n.Arcs.getD i default).cap) ∨ ((n.Arcs.getD i default).to = u ∧ (n.Arcs.getD i default).fr = v ∧ 0 < f.getD i 0))
theorem s_left {n : Net} {f : List Int} (hl : lenok n.Arcs.length) : Ok (Z9m n f) (fun r => (FwithinP n f ∧ r.2.2 = 0 ∧ CsrIs n n.N.toNat r.1 ∧ ResAt r.1.Arc r.1.Cap r.1.Back f (Z13 n.Arcs n.N.toNat) (Z13 n.Arcs n.N.toNat) r.2.1) ∨ (¬FwithinP n f ∧ r.2.2 = 20)) := by
 unfold Z9m
 refine Ok.bind.2 (Ok.mono (Zml hl) fun b hb => Ok.ite.2 ⟨fun h => Ok.some.2 (.inr ⟨fun h2 => (by rw [hb.2 h2] at h; cases h), rfl⟩), fun h => ?_⟩)
 have hw := hb.1 (Zj5 h)
 have hz := Z29 hw.1
 obtain ⟨m, hm, he⟩ := Zjo hw.1
 refine Ok.bind.2 (Ok.mono (s_Make hm hw.1 hl) ?_)
 rintro ⟨c, e⟩ ⟨hc, rfl⟩
 have hc : CsrIs n m c := hc
 simp only
 rw [if_neg (by simp)]
 have hbs := Z6o (al := n.Arcs) (v := m) (by omega) (by omega)
 have hcaps := Zb9 hw.1
 have hcapt : ∀ i, i < n.Arcs.length → (n.Arcs.getD i default).cap ≤ 4611686018427387904 := fun i hi => by
  have h1 := Zcz hw.1 (i + 1) hi
  have h2 := Zcz hw.1 i (by omega)
  simp only [totC] at h1
  omega
 refine Ok.bind.2 (Ok.mono (s_Res (L := Z13 n.Arcs m) hc.ok.lh hc.ok.lc hc.ok.la hc.ok.lb hbs hc.ok.aa0 fun j hj => ?_) ?_)
 ·
  obtain ⟨i, s, hi, hne, hp, q1, q2, q3, q4, q5⟩ := hc.ok.place hj
  have := hcaps i hi
  have := hcapt i hi
  rw [q3]; split <;> omega
 ·
  rintro ⟨r, e⟩ (⟨-, h1, h2⟩ | ⟨⟨j, hj, hbad⟩, -⟩)
  ·
   refine Ok.some.2 (.inl ⟨hw, h1, ?_, ?_⟩)
   · rw [hm, Int.toNat_natCast]; exact hc
   · rw [hm, Int.toNat_natCast]; exact h2
  ·
   exfalso
   obtain ⟨i, s, hi, hne, hp, q1, q2, q3, q4, q5⟩ := hc.ok.place hj
   refine hbad ?_
   unfold Zf6
   rw [q3, q4, q5]
   have := hw.2.1
   refine ⟨by omega, ?_⟩
   cases s
   · right; simp only [Int.toNat_natCast, Bool.false_eq_true, if_false]; exact hw.2.2 i hi
   · exact .inl rfl
theorem Zfa {n : Net} {m : Nat} {c : Csr} {f r : List Int} (hc : CsrIs n m c) (he : Z4i m n.Arcs) (hr : ResAt c.Arc c.Cap c.Back f (Z13 n.Arcs m) (Z13 n.Arcs m) r) {i : Nat} {s : Bool} (hi : i < n.Arcs.length) (hne : (n.Arcs.getD i default).fr ≠ (n.Arcs.getD i default).to) :
    r.getD (pos n.Arcs i s) 0 = if s then f.getD i 0 else (n.Arcs.getD i default).cap - f.getD i 0 := by
  obtain ⟨z1, z2, z3, z4, z5⟩ := hc.ok.hat i hi hne s
  rw [(hr.2 _ (Zcg hi hne he)).2]
  unfold resV
  rw [z3, z4, z5]
  cases s <;> simp
theorem Zhi {n : Net} {m : Nat} {c : Csr} {f r : List Int} (hc : CsrIs n m c) (he : Z4i m n.Arcs) (hr : ResAt c.Arc c.Cap c.Back f (Z13 n.Arcs m) (Z13 n.Arcs m) r) {u v : Nat} (hu : u < m) (t : Bool) :
    (∃ j, Z13 n.Arcs u ≤ j ∧ j < Z13 n.Arcs (u + 1) ∧ (decide (0 < r.getD (if t then (c.Rev.getD j 0).toNat else j) 0)) = true ∧ c.Head.getD j 0 = (v : Int)) ↔ (if t then Zc9 n f v u else Zc9 n f u v) := by
  have hmo := Z3y (al := n.Arcs) (show u + 1 ≤ m by omega)
  constructor
  · rintro ⟨j, h1, h2, h3, h4⟩
    obtain ⟨i, s, hi, hne, hp, q1, q2, q3, q4, q5⟩ := hc.ok.place (j := j) (by omega)
    have hv := he i hi s
    obtain ⟨p1, p2⟩ := Zmq (v := u) hi hne hv.1 (by omega) (by omega)
    have h3 := of_decide_eq_true h3
    rw [q1] at h4
    have ha : (if t then (c.Rev.getD j 0).toNat else j) = pos n.Arcs i (if t then !s else s) := by
      cases t
      · exact hp.symm
      · show (c.Rev.getD j 0).toNat = _
        rw [q2, Int.toNat_natCast]; rfl
    rw [ha, Zfa hc he hr hi hne] at h3
    cases t <;> cases s <;> simp only [Bool.not_true, Bool.not_false, if_true, if_false, Bool.false_eq_true, vtx] at h3 h4 p1 ⊢
    · exact ⟨i, hi, hne, .inl ⟨p1, h4, by omega⟩⟩
    · exact ⟨i, hi, hne, .inr ⟨p1, h4, h3⟩⟩
    · exact ⟨i, hi, hne, .inr ⟨h4, p1, h3⟩⟩
    · exact ⟨i, hi, hne, .inl ⟨h4, p1, by omega⟩⟩
  · intro h
    have key : ∀ (i : Nat) (s : Bool), i < n.Arcs.length → (n.Arcs.getD i default).fr ≠ (n.Arcs.getD i default).to → vtx (n.Arcs.getD i default) s = (u : Int) → vtx (n.Arcs.getD i default) (!s) = (v : Int) → 0 < r.getD (pos n.Arcs i (if t then !s else s)) 0 →
        ∃ j, Z13 n.Arcs u ≤ j ∧ j < Z13 n.Arcs (u + 1) ∧ (decide (0 < r.getD (if t then (c.Rev.getD j 0).toNat else j) 0)) = true ∧ c.Head.getD j 0 = (v : Int) := by
      intro i s hi hne hu' hv' h0
      have hcl := Zdn (s := s) hi hne (by omega)
      have hpos : pos n.Arcs i s = Z13 n.Arcs u + cnt n.Arcs u i := by unfold pos; rw [hu', Int.toNat_natCast]
      rw [hu', Int.toNat_natCast] at hcl
      have hb1 : Z13 n.Arcs (u + 1) = Z13 n.Arcs u + cnt n.Arcs u n.Arcs.length := rfl
      obtain ⟨z1, z2, z3, z4, z5⟩ := hc.ok.hat i hi hne s
      refine ⟨pos n.Arcs i s, by omega, by omega, decide_eq_true ?_, by rw [z1]; exact hv'⟩
      rw [z2]
      cases t
      · simpa using h0
      · simpa using h0
    cases t
    · simp only [Bool.false_eq_true, if_false] at h key ⊢
      obtain ⟨i, hi, hne, ⟨a1, a2, a3⟩ | ⟨a1, a2, a3⟩⟩ := h
      · refine key i false hi hne (by simpa [vtx] using a1) (by simpa [vtx] using a2) ?_
        rw [Zfa hc he hr hi hne]; simp only [Bool.false_eq_true, if_false]; omega
      · refine key i true hi hne (by simpa [vtx] using a1) (by simpa [vtx] using a2) ?_
        rw [Zfa hc he hr hi hne]; simpa using a3
    · simp only [if_true] at h key ⊢
      obtain ⟨i, hi, hne, ⟨a1, a2, a3⟩ | ⟨a1, a2, a3⟩⟩ := h
      · refine key i true hi hne (by simpa [vtx] using a2) (by simpa [vtx] using a1) ?_
        rw [Zfa hc he hr hi hne]; simp only [Bool.not_true, Bool.false_eq_true, if_false]; omega
      · refine key i false hi hne (by simpa [vtx] using a2) (by simpa [vtx] using a1) ?_
        rw [Zfa hc he hr hi hne]; simpa using a3
theorem Zke {n : Net} {m : Nat} {f : List Int} (he : Z4i m n.Arcs) {G : Nat → Nat → Prop} {s : Nat} (hs : s < m) (h : ∀ u v, u < m → (G u v ↔ Zc9 n f u v)) {v : Nat} : Reach G s v ↔ Reach (Zc9 n f) s v := by
 have lt : ∀ {u w}, Zc9 n f u w → u < m ∧ w < m := by
  rintro u w ⟨i, hi, _, h1⟩
  have h0 := he i hi false
  have h2 := he i hi true
  simp only [vtx, Bool.false_eq_true, if_false, if_true] at h0 h2
  omega
 constructor
 ·
  intro hr
  have : v < m ∧ Reach (Zc9 n f) s v := by
   induction hr with
   | refl => exact ⟨hs, .refl⟩
   | step _ hg ih => have ho := (h _ _ ih.1).1 hg; exact ⟨(lt ho).2, .step ih.2 ho⟩
  exact this.2
 ·
  intro hr
  exact hr.mono fun u w ho => (h u w (lt ho).1).2 ho
theorem s_From {n : Net} {f : List Int} (hl : lenok n.Arcs.length) : Ok (Z9n n f) (fun r => (FwithinP n f ∧ r.2 = 0 ∧ r.1.length = n.N.toNat ∧ ∀ v, v < n.N.toNat → (r.1.getD v false = true ↔ Reach (Zc9 n f) n.S.toNat v)) ∨ (¬FwithinP n f ∧ r = ([], 20))) := by
 unfold Z9n
 refine Ok.bind.2 (Ok.mono (s_left hl) ?_)
 rintro ⟨c, r, e⟩ (⟨hw, h1, hc, hr⟩ | ⟨hw, h1⟩)
 rotate_left
 ·
  simp only at h1
  subst h1
  exact Ok.ite.2 ⟨fun _ => Ok.some.2 (.inr ⟨hw, rfl⟩), fun h => absurd (by omega) h⟩
 simp only at h1 hc hr
 subst h1
 simp only
 rw [if_neg (by simp)]
 have hz := Z29 hw.1
 simp only [Z44, decide_eq_true_eq] at hz
 obtain ⟨m, hm, he⟩ := Zjo hw.1
 obtain ⟨s, hs⟩ : ∃ s : Nat, n.S = s := ⟨n.S.toNat, by omega⟩
 rw [hm, Int.toNat_natCast] at hc hr
 have hbs := Z6o (al := n.Arcs) (v := m) (by omega) (by omega)
 have hrl := hr.1
 rw [g_From, hs]
 refine Ok.bind.2 (Ok.mono (s_met (mb := fun j => decide (0 < r.getD j 0)) hc he (by omega) (by omega) (show s < m by omega) fun j hj => ?_) fun x hx => Ok.some.2 (.inl ⟨hw, rfl, ?_, fun v hv => ?_⟩))
 · unfold Z7l; rw [Z8l (by constructor <;> omega), Int.toNat_natCast]
 · rw [hm, Int.toNat_natCast]; exact hx.1
 ·
  rw [hm, Int.toNat_natCast] at hv
  rw [hx.2 v hv, Int.toNat_natCast]
  exact Zke he (by omega) fun u w hu => by simpa using Zhi (v := w) hc he hr hu false
end Go.Acq
namespace Go.Acq
open Go
set_option linter.unusedSimpArgs false
def Ze1 (al : List Arc) (f : List Int) (c : List Bool) (j : Int) : Nat → Int
  | 0 => 0
  | k + 1 => Ze1 al f c j k - (if (al.getD k default).fr < j ∧ inS c (al.getD k default).fr = false then f.getD k 0 else 0) + (if (al.getD k default).to < j ∧ inS c (al.getD k default).to = false then f.getD k 0 else 0)
theorem Zd2 {al : List Arc} {f : List Int} {c : List Bool} (j : Int) : ∀ k, Ze1 al f c (j + 1) k = Ze1 al f c j k + (if inS c j = false then ex al f j k else 0)
 | 0 => by simp [Ze1, ex]
 | k + 1 => by
  have ih := Zd2 (al := al) (f := f) (c := c) j k
  simp only [Ze1, ex, ih]
  have e1 : ∀ x : Int, (if x < j + 1 ∧ inS c x = false then f.getD k 0 else 0) = (if x < j ∧ inS c x = false then f.getD k 0 else 0) + (if x = j ∧ inS c j = false then f.getD k 0 else 0) := fun x => by
   by_cases h1 : x < j
   ·
    by_cases h3 : inS c x = false
    · rw [if_pos ⟨by omega, h3⟩, if_pos ⟨h1, h3⟩, if_neg (fun h => by omega)]; omega
    · rw [if_neg (fun h => h3 h.2), if_neg (fun h => h3 h.2), if_neg (fun h => by omega)]; omega
   ·
    by_cases h2 : x = j
    ·
     subst h2
     by_cases h3 : inS c x = false
     · rw [if_pos ⟨by omega, h3⟩, if_neg (fun h => h1 h.1), if_pos ⟨rfl, h3⟩]; omega
     · rw [if_neg (fun h => h3 h.2), if_neg (fun h => h3 h.2), if_neg (fun h => h3 h.2)]; omega
    · rw [if_neg (fun h => by omega), if_neg (fun h => by omega), if_neg (fun h => h2 h.1)]; omega
  rw [e1, e1]
  by_cases h : inS c j = false
  ·
   simp only [h, and_true, if_true]
   omega
  ·
   simp only [h, Bool.not_eq_false, and_false, if_false, ite_false, reduceCtorEq]
   omega
theorem Zd3 {al : List Arc} {f : List Int} {c : List Bool} {m : Nat} (he : Z4i m al) : ∀ k, k ≤ al.length → Ze1 al f c 0 k = 0
 | 0, _ => rfl
 | k + 1, hk => by
  have h0 := he k hk false
  have h1 := he k hk true
  simp only [vtx, Bool.false_eq_true, if_false, if_true] at h0 h1
  simp only [Ze1, Zd3 he k (by omega)]
  rw [if_neg (fun h => by omega), if_neg (fun h => by omega)]; rfl
theorem Zec {al : List Arc} {f : List Int} {c : List Bool} {m : Nat} (he : Z4i m al) : ∀ k, k ≤ al.length → Ze1 al f c m k = acK al f c k
 | 0, _ => rfl
 | k + 1, hk => by
  have h0 := he k hk false
  have h1 := he k hk true
  simp only [vtx, Bool.false_eq_true, if_false, if_true] at h0 h1
  simp only [Ze1, acK, Zec he k (by omega)]
  obtain ⟨A, hA⟩ : ∃ A, al.getD k default = A := ⟨_, rfl⟩
  obtain ⟨F, hF⟩ : ∃ F, f.getD k 0 = F := ⟨_, rfl⟩
  rw [hA] at h0 h1 ⊢
  rw [hF]
  cases a : inS c A.fr <;> cases b : inS c A.to <;> simp [h0.2, h1.2] <;> omega
theorem Zn5 {al : List Arc} {f : List Int} {c : List Bool} (h : ∀ i, i < al.length → 0 ≤ f.getD i 0 ∧ f.getD i 0 ≤ (al.getD i default).cap) : ∀ k, k ≤ al.length → acK al f c k ≤ Zht al c k ∧ (acK al f c k = Zht al c k ↔ ∀ i, i < k → Zdh al f c i)
 | 0, _ => ⟨Int.le_refl _, fun _ i hi => by omega, fun _ => rfl⟩
 | k + 1, hk => by
  obtain ⟨g1, g2⟩ := Zn5 (c := c) h k (by omega)
  have hf := h k (by omega)
  have key : (∀ i, i < k + 1 → Zdh al f c i) ↔ (∀ i, i < k → Zdh al f c i) ∧ Zdh al f c k :=
   ⟨fun hh => ⟨fun i hi => hh i (by omega), hh k (by omega)⟩, fun hh i hi => by
    rcases Nat.lt_or_ge i k with h1 | h1
    · exact hh.1 i h1
    · rw [show i = k by omega]; exact hh.2⟩
  rw [key, ← g2]
  simp only [acK, Zht, Zdh]
  obtain ⟨A, hA⟩ : ∃ A, al.getD k default = A := ⟨_, rfl⟩
  obtain ⟨F, hF⟩ : ∃ F, f.getD k 0 = F := ⟨_, rfl⟩
  rw [hA, hF] at hf
  rw [hA, hF]
  cases a : inS c A.fr <;> cases b : inS c A.to <;> simp <;> omega
theorem Zj0 {n : Net} {f : List Int} {c : List Bool} {m : Nat} (hm : n.N = m) (he : Z4i m n.Arcs) (hA : AllP n f (fun x => x = 0) [n.S, n.T]) (hc : CutR n c) : acK n.Arcs f c n.Arcs.length = ex n.Arcs f n.T n.Arcs.length := by
 have hz := Z29 hc.1
 simp only [Z44, decide_eq_true_eq] at hz
 have hj : ∀ j : Nat, j ≤ m → Ze1 n.Arcs f c j n.Arcs.length = if n.T < j then ex n.Arcs f n.T n.Arcs.length else 0 := by
  intro j
  induction j with
  | zero => intro _; rw [show ((0 : Nat) : Int) = 0 from rfl, Zd3 he _ (Nat.le_refl _), if_neg (by omega)]
  | succ j ih =>
   intro hj
   rw [Int.natCast_succ, Zd2, ih (by omega)]
   by_cases c1 : n.T = j
   · rw [← c1, if_neg (by omega), if_pos hc.2.2.2, if_pos (by omega)]; omega
   ·
    have hz : (if inS c j = false then ex n.Arcs f j n.Arcs.length else 0) = 0 := by
     by_cases c2 : inS c j = false
     ·
      rw [if_pos c2]
      rcases hA.2 j (by omega) with h7 | h7
      · exact h7
      ·
       simp only [List.mem_cons, List.not_mem_nil, or_false] at h7
       rcases h7 with h7 | h7
       · rw [h7, hc.2.2.1] at c2; cases c2
       · exact absurd h7.symm c1
     · rw [if_neg c2]
    rw [hz]
    by_cases c3 : n.T < j
    · rw [if_pos c3, if_pos (by omega)]; omega
    · rw [if_neg c3, if_neg (by omega)]; rfl
 have := hj m (Nat.le_refl _)
 rw [Zec he _ (Nat.le_refl _), if_pos (by omega)] at this
 exact this
end Go.Acq
namespace Go.Acq
open Go
set_option linter.unusedVariables false
structure Pre where
  Res : List Int
  Ex : List Int
  H : List Int
  deriving DecidableEq
instance : Inhabited Pre := ⟨⟨default, default, default⟩⟩
def Zb6 (c0 : Csr) (u1 : Int) : Option (Unit) :=
  some ()
def Zal {S_ X_ : Type} (yy_ : S_ → Int → Option (S_ ⊕ X_)) (c1 : Csr) (c2 : Int) (a2 : Int) (tt4 : S_ ⊕ X_) : Option ((Int × (S_ ⊕ X_)) ⊕ ((S_ ⊕ X_))) :=
  gd (i64ok (c2 + 1)) <|
  gd (inb (c2 + 1) c1.First.length) <|
  if a2 < (c1.First.getD (c2 + 1).toNat 0) then
  (Option.bind (yieldM yy_ tt4 a2) fun tt9 =>
  if (!tt9.isLeft) = true then
  (some (.inr tt9))
  else
  gd (i64ok (a2 + 1)) <|
  some (.inl ((a2 + 1), tt9)))
  else
  some (.inr tt4)
def Z95 {S_ X_ : Type} (yy_ : S_ → Int → Option (S_ ⊕ X_)) (c1 : Csr) (c2 : Int) (tt_ : S_ ⊕ X_) : Option ((S_ ⊕ X_)) :=
  gd (inb c2 c1.First.length) <|
  Option.bind (Z32 (fun s => Zal yy_ c1 c2 s.1 s.2) Z5g ((c1.First.getD c2.toNat 0), tt_)) fun p1_0_0 => some p1_0_0
def Z97 (c0 : Csr) (p1 : Pre) (u2 : Int) : Option (Bool) :=
  if u2 ≠ c0.S then
  (if u2 ≠ c0.T then
  (gd (inb u2 p1.Ex.length) <|
  some (decide (0 < (p1.Ex.getD u2.toNat 0))))
  else
  some false)
  else
  some false
def Z68 (c0 : Csr) (p1 : Pre) (u2 : Int) (a3 : Int) : Option (Bool) :=
  gd (inb a3 p1.Res.length) <|
  if 0 < (p1.Res.getD a3.toNat 0) then
  (gd (inb u2 p1.H.length) <|
  gd (inb a3 c0.Head.length) <|
  gd (inb (c0.Head.getD a3.toNat 0) p1.H.length) <|
  gd (i64ok ((p1.H.getD (c0.Head.getD a3.toNat 0).toNat 0) + 1)) <|
  some (decide ((p1.H.getD u2.toNat 0) = ((p1.H.getD (c0.Head.getD a3.toNat 0).toNat 0) + 1))))
  else
  some false
def Zbp (c0 : Csr) (p1 : Pre) (u2 : Int) (y15 : Int) : Option ((Unit) ⊕ (Unit)) :=
  Option.bind (Z68 c0 p1 u2 y15) fun r16 =>
  if r16 = true then
  (some (.inr ()))
  else
  some (.inl ())
def Zbv (c0 : Csr) (p1 : Pre) (u2 : Int) : Option (Bool) :=
  Option.bind (Zb6 c0 u2) fun _ =>
  Option.bind (Z95 (fun s v => Zbp c0 p1 u2 v) c0 u2 (.inl ())) fun t => match t with | .inl _ => (Option.bind (Z97 c0 p1 u2) fun r19 => some r19) | .inr _ => (some false)
def Zee (u0 : Int) (c1 : Csr) (c2 : Pre) : Option (Bool) :=
  Option.bind (Zbv c1 c2 u0) fun r1 =>
  some r1
def Z6v (c0 : Csr) (so1_0 : Csr) (so1_1 : Pre) (out3 : List Int) (x13 : Int) : Option ((List Int × Int) ⊕ (List Int)) :=
  if x13 < c0.N then
  (Option.bind (Zee x13 so1_0 so1_1) fun r15 =>
  if r15 = true then
  (gd (apok (out3 ++ ([x13])).length 8) <|
  gd (i64ok (x13 + 1)) <|
  some (.inl ((out3 ++ ([x13])), (x13 + 1))))
  else
  gd (i64ok (x13 + 1)) <|
  some (.inl (out3, (x13 + 1))))
  else
  some (.inr out3)
def Z96 (out30 : List Int) : Option (List Int) :=
  some out30
def Zam (c0 : Csr) (so1_0 : Csr) (so1_1 : Pre) : Option (List Int) :=
  Option.bind (Z32 (fun s => Z6v c0 so1_0 so1_1 s.1 s.2) Z5g ([], 0)) fun p1_0_0 => Z96 p1_0_0
def Z98 (out27 : List Int) (y37 : Int) (x43 : Bool) : Option ((List Int) ⊕ (Empty)) :=
  if x43 = true then
  (gd (apok (out27 ++ ([y37])).length 8) <|
  some (.inl (out27 ++ ([y37]))))
  else
  some (.inl out27)
def Zdk (c0 : Csr) (p1 : Pre) (x17 : Int) (out27 : List Int) (y37 : Int) : Option ((List Int) ⊕ (Empty)) :=
  Option.bind (Z97 c0 p1 x17) fun r38 =>
  if r38 = true then
  (Option.bind (Z68 c0 p1 x17 y37) fun r41 =>
  Z98 out27 y37 r41)
  else
  Z98 out27 y37 false
def Zdl (c0 : Csr) (p1 : Pre) (out7 : List Int) (x17 : Int) : Option ((List Int × Int) ⊕ (List Int)) :=
  if x17 < c0.N then
  (Option.bind (Zb6 c0 x17) fun _ =>
  Option.bind (Z95 (fun s v => Zdk c0 p1 x17 s v) c0 x17 (.inl out7)) fun t => match t with | .inl out27 => (gd (i64ok (x17 + 1)) <| some (.inl (out27, (x17 + 1)))) | .inr x => nomatch x)
  else
  some (.inr out7)
def Zdm (c0 : Csr) (p1 : Pre) (out56 : List Int) : Option (List Int × List Int) :=
  Option.bind (Zam c0 c0 p1) fun r67 =>
  some (out56, r67)
def Zef (c0 : Csr) (p1 : Pre) : Option (List Int × List Int) :=
  Option.bind (Z32 (fun s => Zdl c0 p1 s.1 s.2) Z5g ([], 0)) fun p1_0_0 => Zdm c0 p1 p1_0_0
end Go.Acq
namespace Go.Acq
open Go
set_option linter.unusedSimpArgs false
def Zbs (g : Nat → Int) : Nat → Int
  | 0 => 0
  | k + 1 => Zbs g k + g k
theorem Zb4 {g h : Nat → Int} : ∀ {k : Nat}, (∀ i, i < k → g i = h i) → Zbs g k = Zbs h k
 | 0, _ => rfl
 | k + 1, e => by simp only [Zbs]; rw [Zb4 fun i hi => e i (by omega), e k (by omega)]
theorem Ze2 (g h : Nat → Int) : ∀ k, Zbs (fun i => g i + h i) k = Zbs g k + Zbs h k
 | 0 => rfl
 | k + 1 => by simp only [Zbs, Ze2 g h k]; omega
theorem Ze6 {g : Nat → Int} {k : Nat} (h : ∀ i, i < k → g i = 0) : Zbs g k = 0 := by
 induction k with
 | zero => rfl
 | succ k ih => simp only [Zbs]; rw [ih fun i hi => h i (by omega), h k (by omega)]; rfl
theorem Za3 {g : Nat → Int} {i : Nat} : ∀ {k : Nat}, i < k → (∀ j, j < k → j ≠ i → g j = 0) → Zbs g k = g i
 | 0, h, _ => by omega
 | k + 1, h, e => by
  simp only [Zbs]
  by_cases c : i = k
  · subst c; rw [Ze6 fun j hj => e j (by omega) (by omega)]; omega
  · rw [Za3 (show i < k by omega) fun j hj hne => e j (by omega) hne, e k (by omega) (fun h => c h.symm)]; omega
theorem Zha (F : Nat → Nat → Int) (K : Nat) : ∀ L, Zbs (fun j => Zbs (fun i => F i j) K) L = Zbs (fun i => Zbs (fun j => F i j) L) K
 | 0 => (Ze6 fun _ _ => rfl).symm
 | L + 1 => by
  simp only [Zbs]
  rw [Zha F K L, ← Ze2]
theorem Zmf {g h : Nat → Int} : ∀ {k : Nat}, (∀ i, i < k → g i ≤ h i) → Zbs g k ≤ Zbs h k
 | 0, _ => Int.le_refl _
 | k + 1, e => by
  have := Zmf (k := k) fun i hi => e i (by omega)
  have := e k (by omega)
  simp only [Zbs]; omega
theorem posSum {al : List Arc} {m : Nat} (he : Z4i m al) (g : Nat → Int) : Zbs g (Z13 al m) = Zbs (fun i => if (al.getD i default).fr = (al.getD i default).to then 0 else g (pos al i false) + g (pos al i true)) al.length := by
 let F : Nat → Nat → Int := fun i j => if (al.getD i default).fr = (al.getD i default).to then 0 else (if pos al i false = j then g j else 0) + (if pos al i true = j then g j else 0)
 have e1 : Zbs g (Z13 al m) = Zbs (fun j => Zbs (fun i => F i j) al.length) (Z13 al m) := by
  refine Zb4 fun j hj => ?_
  obtain ⟨i, s, hi, hne, hp, _⟩ := Zjh (al := al) hj
  rw [Za3 (i := i) hi]
  ·
   simp only [F]
   rw [if_neg hne]
   cases s
   ·
    have h2 : pos al i true ≠ j := fun e => by have := (Z8j he hi hi hne hne (hp.trans e.symm)).2; cases this
    rw [if_pos hp, if_neg h2]; omega
   ·
    have h2 : pos al i false ≠ j := fun e => by have := (Z8j he hi hi hne hne (hp.trans e.symm)).2; cases this
    rw [if_neg h2, if_pos hp]; omega
  ·
   intro i' hi' hii
   simp only [F]
   by_cases c : (al.getD i' default).fr = (al.getD i' default).to
   · rw [if_pos c]
   · rw [if_neg c, if_neg fun e => hii (Z8j he hi' hi c hne (e.trans hp.symm)).1, if_neg fun e => hii (Z8j he hi' hi c hne (e.trans hp.symm)).1]; rfl
 rw [e1, Zha]
 refine Zb4 fun i hi => ?_
 by_cases c : (al.getD i default).fr = (al.getD i default).to
 ·
  rw [if_pos c]
  exact Ze6 fun j _ => by simp only [F]; rw [if_pos c]
 ·
  rw [if_neg c]
  have e2 : Zbs (fun j => F i j) (Z13 al m) = Zbs (fun j => (if pos al i false = j then g j else 0) + (if pos al i true = j then g j else 0)) (Z13 al m) := Zb4 fun j _ => by simp only [F]; rw [if_neg c]
  rw [e2, Ze2, Za3 (i := pos al i false) (Zcg hi c he) fun j _ hj => if_neg fun e => hj e.symm, Za3 (i := pos al i true) (Zcg hi c he) fun j _ hj => if_neg fun e => hj e.symm, if_pos rfl, if_pos rfl]
def hd (c : Csr) (j : Nat) : Nat := (c.Head.getD j 0).toNat
def rv (c : Csr) (j : Nat) : Nat := (c.Rev.getD j 0).toNat
def fs (c : Csr) (v : Nat) : Nat := (c.First.getD v 0).toNat
def tl (c : Csr) (j : Nat) : Nat := hd c (rv c j)
def bk (c : Csr) (j : Nat) : Bool := c.Back.getD j false
def cp (c : Csr) (j : Nat) : Int := max (c.Cap.getD j 0) (c.Cap.getD (rv c j) 0)
structure Row (n : Net) (m L : Nat) (c : Csr) : Prop where
  is : CsrIs n m c
  chk : Z64 n.N n.S n.T n.Arcs = 0
  hm : n.N = m
  hL : Z13 n.Arcs m = L
section row
variable {n : Net} {m L : Nat} {c : Csr}
theorem Row.he (r : Row n m L c) : Z4i m n.Arcs := Z73 (by rw [← r.hm]; exact (Z29 r.chk).2.2.2.1)
theorem Row.bd (r : Row n m L c) : 2 ≤ m ∧ m ≤ 4096 ∧ n.Arcs.length ≤ 16384 ∧ L ≤ 67108864 := by
 have hz := Z29 r.chk
 have := r.hm
 have hb := Z6o (al := n.Arcs) (v := m) (by omega) (by omega)
 have := r.hL
 omega
theorem Row.ends (r : Row n m L c) : (∃ S : Nat, n.S = S ∧ c.S = S ∧ S < m) ∧ (∃ T : Nat, n.T = T ∧ c.T = T ∧ T < m) ∧ n.S ≠ n.T ∧ c.N = m := by
 have hz := Z29 r.chk
 simp only [Z44, decide_eq_true_eq] at hz
 have h1 := r.hm
 have h2 := r.is.hS
 have h3 := r.is.hT
 exact ⟨⟨n.S.toNat, by omega, by omega, by omega⟩, ⟨n.T.toNat, by omega, by omega, by omega⟩, hz.2.2.1.2.2, r.is.hN⟩
theorem Row.caps (r : Row n m L c) : ∀ i, i < n.Arcs.length → 0 ≤ (n.Arcs.getD i default).cap ∧ (n.Arcs.getD i default).cap ≤ 4611686018427387904 := fun i hi => by
 have h0 := Zb9 r.chk i hi
 have h1 := Zcz r.chk (i + 1) hi
 have h2 := Zcz r.chk i (by omega)
 simp only [totC] at h1
 omega
theorem Row.lens (r : Row n m L c) : c.First.length = m + 1 ∧ c.Head.length = L ∧ c.Rev.length = L ∧ c.Cap.length = L ∧ c.Arc.length = L ∧ c.Back.length = L := by
 have h := r.is.ok
 rw [← r.hL]
 exact ⟨h.lf, h.lh, h.lr, h.lc, h.la, h.lb⟩
theorem Row.at (r : Row n m L c) {j : Nat} (hj : j < L) : ∃ i s, i < n.Arcs.length ∧ (n.Arcs.getD i default).fr ≠ (n.Arcs.getD i default).to ∧ pos n.Arcs i s = j ∧ c.Head.getD j 0 = (hd c j : Nat) ∧ (hd c j : Int) = vtx (n.Arcs.getD i default) (!s) ∧ (tl c j : Int) = vtx (n.Arcs.getD i default) s ∧
    c.Rev.getD j 0 = (rv c j : Nat) ∧ rv c j = pos n.Arcs i (!s) ∧ c.Cap.getD j 0 = (if s then 0 else (n.Arcs.getD i default).cap) ∧ c.Arc.getD j 0 = i ∧ bk c j = s := by
  obtain ⟨i, s, hi, hne, hp, q1, q2, q3, q4, q5⟩ := r.is.ok.place (by rw [r.hL]; exact hj)
  have hv := r.he i hi (!s)
  have hv2 := r.he i hi s
  have hr : rv c j = pos n.Arcs i (!s) := by unfold rv; rw [q2, Int.toNat_natCast]
  refine ⟨i, s, hi, hne, hp, by unfold hd; omega, by unfold hd; omega, ?_, by unfold rv; omega, hr, q3, q4, q5⟩
  unfold tl hd
  rw [hr, (r.is.ok.hat i hi hne (!s)).1, Bool.not_not]; omega
theorem Row.head (r : Row n m L c) {j : Nat} (hj : j < L) : c.Head.getD j 0 = (hd c j : Nat) ∧ hd c j < m := by
 obtain ⟨i, s, hi, hne, hp, q1, q2, q3, q4, q5, q6, q7, q8⟩ := r.at hj
 have hv := r.he i hi (!s)
 exact ⟨q1, by omega⟩
theorem Row.rev (r : Row n m L c) {j : Nat} (hj : j < L) : c.Rev.getD j 0 = (rv c j : Nat) ∧ rv c j < L ∧ rv c (rv c j) = j ∧ rv c j ≠ j := by
 obtain ⟨i, s, hi, hne, hp, q1, q2, q3, q4, q5, q6, q7, q8⟩ := r.at hj
 have hq : pos n.Arcs i (!s) < L := by rw [← r.hL]; exact Zcg hi hne r.he
 refine ⟨q4, by rw [q5]; exact hq, ?_, fun e => ?_⟩
 ·
  have := (r.is.ok.hat i hi hne (!s)).2.1
  rw [q5]; unfold rv; rw [this, Int.toNat_natCast, Bool.not_not, hp]
 ·
  have := (Z8j r.he hi hi hne hne (q5.symm.trans (e.trans hp.symm))).2
  cases s <;> cases this
theorem Row.tlh (r : Row n m L c) {j : Nat} (hj : j < L) : tl c j < m ∧ tl c (rv c j) = hd c j ∧ hd c (rv c j) = tl c j ∧ tl c j ≠ hd c j := by
 obtain ⟨i, s, hi, hne, hp, q1, q2, q3, q4, q5, q6, q7, q8⟩ := r.at hj
 have hv := r.he i hi s
 refine ⟨by omega, ?_, rfl, fun e => ?_⟩
 · unfold tl; rw [(r.rev hj).2.2.1]
 ·
  apply hne
  have : vtx (n.Arcs.getD i default) s = vtx (n.Arcs.getD i default) (!s) := by omega
  cases s <;> simpa [vtx, eq_comm] using this
theorem Row.back (r : Row n m L c) {j : Nat} (hj : j < L) : bk c (rv c j) = !bk c j := by
 obtain ⟨i, s, hi, hne, hp, q1, q2, q3, q4, q5, q6, q7, q8⟩ := r.at hj
 unfold bk at q8 ⊢
 rw [q5, (r.is.ok.hat i hi hne (!s)).2.2.2.2, q8]
theorem Row.first (r : Row n m L c) : (∀ v, v ≤ m → c.First.getD v 0 = (fs c v : Nat) ∧ fs c v = Z13 n.Arcs v) ∧ fs c 0 = 0 ∧ fs c m = L ∧ ∀ v, v < m → fs c v ≤ fs c (v + 1) ∧ fs c (v + 1) ≤ L := by
 have h : ∀ v, v ≤ m → c.First.getD v 0 = (fs c v : Nat) ∧ fs c v = Z13 n.Arcs v := fun v hv => by
  have := r.is.ok.hf v hv
  unfold fs; rw [this, Int.toNat_natCast]; exact ⟨rfl, rfl⟩
 refine ⟨h, by rw [(h 0 (by omega)).2]; rfl, by rw [(h m (Nat.le_refl _)).2]; exact r.hL, fun v hv => ?_⟩
 rw [(h v (by omega)).2, (h (v + 1) (by omega)).2, ← r.hL]
 exact ⟨Z3y (by omega), Z3y (by omega)⟩
theorem Row.range (r : Row n m L c) {j u : Nat} (hj : j < L) (hu : u < m) : (fs c u ≤ j ∧ j < fs c (u + 1)) ↔ tl c j = u := by
 obtain ⟨i, s, hi, hne, hp, q1, q2, q3, q4, q5, q6, q7, q8⟩ := r.at hj
 have hv := r.he i hi s
 have f1 := (r.first.1 u (by omega)).2
 have f2 := (r.first.1 (u + 1) (by omega)).2
 constructor
 ·
  rintro ⟨h1, h2⟩
  have := (Zmq (v := u) hi hne hv.1 (by omega) (by omega)).1
  omega
 ·
  intro h
  have hcl := Zdn (s := s) hi hne hv.1
  have hpos : pos n.Arcs i s = Z13 n.Arcs (vtx (n.Arcs.getD i default) s).toNat + cnt n.Arcs (vtx (n.Arcs.getD i default) s).toNat i := rfl
  have e : (vtx (n.Arcs.getD i default) s).toNat = u := by omega
  rw [e] at hcl hpos
  have hb1 : Z13 n.Arcs (u + 1) = Z13 n.Arcs u + cnt n.Arcs u n.Arcs.length := rfl
  omega
theorem Row.cap (r : Row n m L c) {j : Nat} (hj : j < L) : 0 ≤ c.Cap.getD j 0 ∧ c.Cap.getD j 0 + c.Cap.getD (rv c j) 0 = cp c j ∧ cp c (rv c j) = cp c j ∧ 0 ≤ cp c j ∧ cp c j ≤ 4611686018427387904 ∧ (bk c j = true → c.Cap.getD j 0 = 0) := by
 obtain ⟨i, s, hi, hne, hp, q1, q2, q3, q4, q5, q6, q7, q8⟩ := r.at hj
 have hc := r.caps i hi
 have h2 : c.Cap.getD (rv c j) 0 = if (!s) then 0 else (n.Arcs.getD i default).cap := by rw [q5]; exact (r.is.ok.hat i hi hne (!s)).2.2.1
 have h3 := (r.rev hj).2.2.1
 unfold cp
 rw [h3, q6, h2, q8]
 cases s
 · simp only [Bool.not_false, if_true, Bool.false_eq_true, if_false, false_implies, and_true]; omega
 · simp only [Bool.not_true, if_true, Bool.false_eq_true, if_false, true_implies, and_true]; omega
theorem Row.cpPos (r : Row n m L c) {i : Nat} (hi : i < n.Arcs.length) (hne : (n.Arcs.getD i default).fr ≠ (n.Arcs.getD i default).to) (s : Bool) : cp c (pos n.Arcs i s) = (n.Arcs.getD i default).cap ∧ rv c (pos n.Arcs i s) = pos n.Arcs i (!s) ∧ pos n.Arcs i s < L := by
 have z := r.is.ok.hat i hi hne s
 have z2 := r.is.ok.hat i hi hne (!s)
 have hc := r.caps i hi
 have hr : rv c (pos n.Arcs i s) = pos n.Arcs i (!s) := by unfold rv; rw [z.2.1, Int.toNat_natCast]
 refine ⟨?_, hr, by rw [← r.hL]; exact Zcg hi hne r.he⟩
 unfold cp
 rw [hr, z.2.2.1, z2.2.2.1]
 cases s <;> simp only [Bool.not_true, Bool.not_false, if_true, Bool.false_eq_true, if_false] <;> omega
theorem s_arcs {S X : Type} {y : S → Int → Option (S ⊕ X)} {s0 : S} {u : Nat} (r : Row n m L c) (hu : u < m) (I : Nat → S → Prop) (J : X → Prop) (h0 : I (fs c u) s0)
    (hstep : ∀ j s, fs c u ≤ j → j < fs c (u + 1) → I j s → Ok (y s (j : Nat)) (fun t => match t with | .inl s' => I (j + 1) s' | .inr x => J x)) :
    Ok (Z95 y c (u : Nat) (.inl s0)) (fun t => match t with | .inl s => I (fs c (u + 1)) s | .inr x => J x) := by
  have lf := r.lens.1
  have b := r.bd
  have f1 := (r.first.1 u (by omega)).1
  have f2 := (r.first.1 (u + 1) (by omega)).1
  have f3 := r.first.2.2.2 u hu
  have e1 : ((u : Int) + 1).toNat = u + 1 := by omega
  unfold Z95
  simp only [Int.toNat_natCast, f1]
  refine Ok.gd.2 ⟨(by omega), Ok.bind.2 (Z8z (fun s => ∃ (k : Nat) (st : S), s = ((k : Int), Sum.inl st) ∧ fs c u ≤ k ∧ k ≤ fs c (u + 1) ∧ I k st) (fun s => (fs c (u + 1) - s.1).toNat) ⟨fs c u, s0, rfl, Nat.le_refl _, f3.1, h0⟩ (by unfold Z5g; simp only; omega) ?_)⟩
  rintro s ⟨k, st, rfl, hk0, hk, hI⟩ P next exit
  unfold Zal
  simp only [Int.toNat_natCast, e1, f2]
  refine Ok.gd.2 ⟨(by omega), Ok.gd.2 ⟨(by omega), Ok.ite.2 ⟨fun hx => ?_, fun hx => Ok.some.2 (exit _ (Ok.some.2 ?_))⟩⟩⟩
  · refine Ok.bind.2 ?_
    show Ok (y st _) _
    refine Ok.mono (hstep k st hk0 (by omega) hI) ?_
    rintro (s' | x) hr
    · exact Ok.ite.2 ⟨fun h => by simp at h, fun _ => Ok.gd.2 ⟨(by omega), Ok.some.2 (next _ ⟨k + 1, s', by simp, by omega, by omega, hr⟩ (by simp only; omega))⟩⟩
    · exact Ok.ite.2 ⟨fun _ => Ok.some.2 (exit _ (Ok.some.2 hr)), fun h => by simp at h⟩
  · obtain rfl : k = fs c (u + 1) := by omega
    exact hI
def flN (al : List Arc) (R : List Int) : List Int := (List.range al.length).map fun i => if (al.getD i default).fr = (al.getD i default).to then 0 else R.getD (pos al i true) 0
theorem Zap (al : List Arc) (R : List Int) : (flN al R).length = al.length := by simp [flN]
theorem Z72 {al : List Arc} {R : List Int} {i : Nat} (h : i < al.length) : (flN al R).getD i 0 = if (al.getD i default).fr = (al.getD i default).to then 0 else R.getD (pos al i true) 0 := by
 unfold flN
 rw [List.getD_eq_getElem?_getD, List.getElem?_map, List.getElem?_range h]; rfl
structure ResOK (n : Net) (m L : Nat) (c : Csr) (R X : List Int) : Prop where
  lr : R.length = L
  lx : X.length = m
  res : ∀ j, j < L → 0 ≤ R.getD j 0 ∧ R.getD j 0 + R.getD (rv c j) 0 = cp c j
  ex : ∀ v : Nat, v < m → X.getD v 0 = ex n.Arcs (flN n.Arcs R) v n.Arcs.length
theorem Zkd {R : List Int} (r : Row n m L c) (h : ∀ j, j < L → 0 ≤ R.getD j 0 ∧ R.getD j 0 + R.getD (rv c j) 0 = cp c j) : FwithinP n (flN n.Arcs R) := by
 refine ⟨r.chk, Zap _ _, fun i hi => ?_⟩
 rw [Z72 hi]
 have hc := r.caps i hi
 by_cases e : (n.Arcs.getD i default).fr = (n.Arcs.getD i default).to
 · rw [if_pos e]; omega
 ·
  rw [if_neg e]
  obtain ⟨a1, a2, a3⟩ := r.cpPos hi e true
  have h1 := h _ a3
  have h2 := h _ (r.rev a3).2.1
  omega
theorem ResOK.within {R X : List Int} (h : ResOK n m L c R X) (r : Row n m L c) : FwithinP n (flN n.Arcs R) := Zkd r h.res
theorem Zmc {f : List Int} (hw : FwithinP n f) (v : Int) : -4611686018427387904 ≤ ex n.Arcs f v n.Arcs.length ∧ ex n.Arcs f v n.Arcs.length ≤ 4611686018427387904 := by
 have := ex_le (al := n.Arcs) v (fun i hi => (hw.2.2 i hi).1) n.Arcs.length (Nat.le_refl _)
 have := hw.tot n.Arcs.length (Nat.le_refl _)
 omega
theorem ResOK.rle {R X : List Int} (h : ResOK n m L c R X) (r : Row n m L c) {j : Nat} (hj : j < L) : 0 ≤ R.getD j 0 ∧ R.getD j 0 ≤ cp c j ∧ R.getD j 0 ≤ 4611686018427387904 := by
 have h1 := h.res j hj
 have h2 := h.res _ (r.rev hj).2.1
 have h3 := r.cap hj
 omega
def mvR (c : Csr) (R : List Int) (j : Nat) (d : Int) : List Int := (R.set j (R.getD j 0 - d)).set (rv c j) (R.getD (rv c j) 0 + d)
def mvX (c : Csr) (X : List Int) (j : Nat) (d : Int) : List Int := (X.set (tl c j) (X.getD (tl c j) 0 - d)).set (hd c j) (X.getD (hd c j) 0 + d)
theorem Z94 {R : List Int} {j k : Nat} {d : Int} (r : Row n m L c) (hl : R.length = L) (hj : j < L) : (mvR c R j d).getD k 0 = if k = rv c j then R.getD (rv c j) 0 + d else if k = j then R.getD j 0 - d else R.getD k 0 := by
 have := r.rev hj
 unfold mvR
 rw [Zbw, Zbw, List.length_set]
 by_cases c1 : k = rv c j
 · rw [if_pos ⟨c1.symm, by omega⟩, if_pos c1]
 ·
  rw [if_neg fun h => c1 h.1.symm, if_neg c1]
  by_cases c2 : k = j
  · rw [if_pos ⟨c2.symm, by omega⟩, if_pos c2]
  · rw [if_neg fun h => c2 h.1.symm, if_neg c2]
theorem Zgj {X : List Int} {j k : Nat} {d : Int} (r : Row n m L c) (hl : X.length = m) (hj : j < L) : (mvX c X j d).getD k 0 = X.getD k 0 - (if tl c j = k then d else 0) + (if hd c j = k then d else 0) := by
 have h1 := r.tlh hj
 have h2 := r.head hj
 unfold mvX
 rw [Zbw, Zbw, List.length_set]
 by_cases c1 : hd c j = k
 ·
  subst c1
  rw [if_pos ⟨rfl, by omega⟩, if_neg h1.2.2.2, if_pos rfl]; omega
 ·
  rw [if_neg fun h => c1 h.1]
  by_cases c2 : tl c j = k
  ·
   subst c2
   rw [if_pos ⟨rfl, by omega⟩, if_pos rfl, if_neg c1]; omega
  · rw [if_neg fun h => c2 h.1, if_neg c2, if_neg c1]; omega
theorem Zmx {al : List Arc} {f g : List Int} {i : Nat} {δ : Int} {K : Nat} (v : Int) (hi : i < K) (h : ∀ k, k < K → g.getD k 0 = f.getD k 0 + if k = i then δ else 0) :
    ex al g v K = ex al f v K + ((if (al.getD i default).to = v then δ else 0) - (if (al.getD i default).fr = v then δ else 0)) := by
  have key : ∀ k, k ≤ K → ex al g v k = ex al f v k + if i < k then ((if (al.getD i default).to = v then δ else 0) - (if (al.getD i default).fr = v then δ else 0)) else 0 := by
    intro k
    induction k with
    | zero => intro _; rw [if_neg (by omega)]; rfl
    | succ k ih =>
      intro hk
      simp only [ex]
      rw [ih (by omega), h k (by omega)]
      by_cases e : k = i
      · subst e
        rw [if_neg (show ¬ k < k by omega), if_pos rfl, if_pos (show k < k + 1 by omega)]
        split <;> split <;> omega
      · rw [if_neg e]
        by_cases e2 : i < k
        · rw [if_pos e2, if_pos (show i < k + 1 by omega)]; simp only [Int.add_zero]; omega
        · rw [if_neg e2, if_neg (show ¬ i < k + 1 by omega)]; simp only [Int.add_zero]
  rw [key K (Nat.le_refl _), if_pos hi]
theorem ResOK.move {R X : List Int} {j : Nat} {d : Int} (h : ResOK n m L c R X) (r : Row n m L c) (hj : j < L) (d0 : 0 ≤ d) (d1 : d ≤ R.getD j 0) : ResOK n m L c (mvR c R j d) (mvX c X j d) := by
 have hr := r.rev hj
 have hlr := h.lr
 have hlx := h.lx
 refine ⟨by simp [mvR, hlr], by simp [mvX, hlx], fun k hk => ?_, fun v hv => ?_⟩
 ·
  have hk2 := r.rev hk
  have a := h.res k hk
  have a2 := h.res _ hr.2.1
  have a3 := h.res j hj
  have a4 := r.cap hj
  rw [Z94 r hlr hj, Z94 r hlr hj]
  by_cases c1 : k = rv c j
  ·
   subst c1
   rw [if_pos rfl, hr.2.2.1, if_neg fun e => hr.2.2.2 e.symm, if_pos rfl, a4.2.2.1]; omega
  ·
   by_cases c2 : k = j
   ·
    subst c2
    rw [if_neg c1, if_pos rfl, if_pos rfl]; omega
   ·
    have c3 : rv c k ≠ rv c j := fun e => c2 (by rw [← hk2.2.2.1, e, hr.2.2.1])
    have c4 : rv c k ≠ j := fun e => c1 (by rw [← e, hk2.2.2.1])
    rw [if_neg c1, if_neg c2, if_neg c3, if_neg c4]; exact a
 ·
  obtain ⟨i, s, hi, hne, hp, q1, q2, q3, q4, q5, q6, q7, q8⟩ := r.at hj
  rw [Zgj r hlx hj, h.ex v hv, Zmx (f := flN n.Arcs R) (g := flN n.Arcs (mvR c R j d)) (i := i) (δ := if s then -d else d) (v : Int) hi fun k hk => ?_]
  ·
   have t1 : (tl c j = v) ↔ vtx (n.Arcs.getD i default) s = (v : Int) := by rw [← q3]; omega
   have t2 : (hd c j = v) ↔ vtx (n.Arcs.getD i default) (!s) = (v : Int) := by rw [← q2]; omega
   simp only [t1, t2]
   cases s <;> simp only [vtx, Bool.not_false, Bool.not_true, if_true, if_false, Bool.false_eq_true] <;> split <;> split <;> omega
  ·
   rw [Z72 hk, Z72 hk]
   by_cases e : (n.Arcs.getD k default).fr = (n.Arcs.getD k default).to
   ·
    have : k ≠ i := fun e2 => by subst e2; exact hne e
    rw [if_pos e, if_pos e, if_neg this]; rfl
   ·
    rw [if_neg e, if_neg e, Z94 r hlr hj]
    by_cases e2 : k = i
    ·
     subst e2
     cases s
     ·
      have b1 : pos n.Arcs k true = rv c j := by rw [q5]; rfl
      rw [if_pos b1, if_pos rfl, b1]; rfl
     ·
      have b1 : pos n.Arcs k true ≠ rv c j := fun e3 => by rw [q5] at e3; have := (Z8j r.he hk hk e e e3).2; cases this
      rw [if_neg b1, if_pos hp, if_pos rfl, hp]; rfl
    ·
     have b1 : pos n.Arcs k true ≠ rv c j := fun e3 => by rw [q5] at e3; exact e2 (Z8j r.he hk hi e hne e3).1
     have b2 : pos n.Arcs k true ≠ j := fun e3 => by rw [← hp] at e3; exact e2 (Z8j r.he hk hi e hne e3).1
     rw [if_neg b1, if_neg b2, if_neg e2, Int.add_zero]
end row
end Go.Acq
namespace Go.Acq
open Go
set_option linter.unusedSimpArgs false
set_option linter.unusedVariables false
section row
variable {n : Net} {m L : Nat} {c : Csr}
def Zel (c : Csr) (d : Int) : List Nat → List Int → List Int
  | [], R => R
  | j :: w, R => Zel c d w (mvR c R j d)
def augX (c : Csr) (d : Int) : List Nat → List Int → List Int
  | [], X => X
  | j :: w, X => augX c d w (mvX c X j d)
inductive WayD (c : Csr) (L : Nat) (R : List Int) (D : Nat → Nat) (d : Int) : Nat → List Nat → Nat → Prop
  | nil (v : Nat) : WayD c L R D d v [] v
  | cons {j : Nat} {w : List Nat} {t : Nat} (hj : j < L) (hd0 : d ≤ R.getD j 0) (hl : D (tl c j) = D (hd c j) + 1) (hw : WayD c L R D d (hd c j) w t) : WayD c L R D d (tl c j) (j :: w) t
theorem WayD.mem {R : List Int} {D : Nat → Nat} {d : Int} {u t : Nat} {w : List Nat} (h : WayD c L R D d u w t) : ∀ j, j ∈ w → j < L ∧ d ≤ R.getD j 0 ∧ D (tl c j) = D (hd c j) + 1 ∧ D (tl c j) ≤ D u := by
 induction h with
 | nil => intro j hj; cases hj
 | cons hj h0 hl hw ih =>
  intro k hk
  rcases List.mem_cons.1 hk with rfl | hk
  · exact ⟨hj, h0, hl, Nat.le_refl _⟩
  ·
   obtain ⟨a, b, e, f⟩ := ih k hk
   exact ⟨a, b, e, by omega⟩
theorem WayD.len {R : List Int} {D : Nat → Nat} {d : Int} {u t : Nat} {w : List Nat} (h : WayD c L R D d u w t) : D u = D t + w.length := by
 induction h with
 | nil => rfl
 | cons hj h0 hl hw ih => rw [List.length_cons, hl, ih]; omega
theorem Zj2 {D : Nat → Nat} {j : Nat} (r : Row n m L c) (hj : j < L) (h : D (tl c j) = D (hd c j) + 1) : D (hd c (rv c j)) = D (tl c (rv c j)) + 1 := by
 rw [(r.tlh hj).2.2.1, (r.tlh hj).2.1]; exact h
theorem WayD.mv {R : List Int} {D : Nat → Nat} {d : Int} {u t j0 : Nat} {w : List Nat} (r : Row n m L c) (hr : R.length = L) (hj0 : j0 < L) (hl0 : D (tl c j0) = D (hd c j0) + 1) (h : WayD c L R D d u w t) (hu : D u < D (tl c j0)) : WayD c L (mvR c R j0 d) D d u w t := by
 induction h with
 | nil => exact .nil _
 | @cons j w t hj h0 hl hw ih =>
  refine .cons hj ?_ hl (ih (by omega))
  have e := Zj2 r hj0 hl0
  rw [Z94 r hr hj0, if_neg (fun h => by subst h; omega), if_neg (fun h => by subst h; omega)]
  exact h0
theorem Ziz {R : List Int} {j : Nat} {d : Int} : (mvR c R j d).length = R.length := by unfold mvR; simp
theorem mvX_len {X : List Int} {j : Nat} {d : Int} : (mvX c X j d).length = X.length := by unfold mvX; simp
theorem WayD.ok {D : Nat → Nat} {d : Int} {u t : Nat} {w : List Nat} (r : Row n m L c) (d0 : 0 ≤ d) {R X : List Int} (h : WayD c L R D d u w t) (hR : ResOK n m L c R X) : ResOK n m L c (Zel c d w R) (augX c d w X) := by
 induction w generalizing R X u with
 | nil => exact hR
 | cons j w ih =>
  cases h with
  | cons hj h0 hl hw =>
   exact ih (hw.mv r hR.lr hj hl (by omega)) (hR.move r hj d0 h0)
theorem WayD.getX {D : Nat → Nat} {d : Int} {u t : Nat} {w : List Nat} (r : Row n m L c) {R X : List Int} (hr : R.length = L) (hx : X.length = m) (h : WayD c L R D d u w t) (v : Nat) : (augX c d w X).getD v 0 = X.getD v 0 - (if u = v then d else 0) + (if t = v then d else 0) := by
 induction w generalizing R X u with
 | nil => cases h; simp only [augX]; omega
 | cons j w ih =>
  cases h with
  | cons hj h0 hl hw =>
   simp only [augX]
   rw [ih (by rw [Ziz]; exact hr) (by rw [mvX_len]; exact hx) (hw.mv r hr hj hl (by omega)), Zgj r hx hj]
   omega
theorem WayD.getR {D : Nat → Nat} {d : Int} {u t : Nat} {w : List Nat} (r : Row n m L c) {R : List Int} (hr : R.length = L) (h : WayD c L R D d u w t) {k : Nat} (hk : k < L) : (Zel c d w R).getD k 0 = R.getD k 0 - (if k ∈ w then d else 0) + (if rv c k ∈ w then d else 0) := by
 induction w generalizing R u with
 | nil => cases h; simp [Zel]
 | cons j w ih =>
  cases h with
  | cons hj h0 hl hw =>
   have hjw : j ∉ w := fun h => by have := (hw.mem j h).2.2.2; omega
   have hjr : rv c j ∉ w := fun h => by have := (hw.mem _ h).2.2.1; have := Zj2 r hj hl; omega
   have hrr := r.rev hj
   have hrk := r.rev hk
   simp only [Zel]
   rw [ih (by rw [Ziz]; exact hr) (hw.mv r hr hj hl (by omega)), Z94 r hr hj]
   simp only [List.mem_cons]
   by_cases e1 : k = rv c j
   ·
    subst e1
    rw [if_pos rfl, hrr.2.2.1]
    simp [hjr, hjw, hrr.2.2.2]
   ·
    rw [if_neg e1]
    have e2 : rv c k ≠ j := fun h => e1 (by rw [← h, hrk.2.2.1])
    by_cases e3 : k = j
    ·
     subst e3
     rw [if_pos rfl]
     simp [hjr, hjw, e2]
    ·
     rw [if_neg e3]
     simp only [e3, e2, false_or]
def LabD (c : Csr) (L : Nat) (R : List Int) (D : Nat → Nat) : Prop := ∀ j, j < L → 0 < R.getD j 0 → D (tl c j) ≤ D (hd c j) + 1
def Ziq (p : Nat → Bool) : Nat → Nat
  | 0 => 0
  | k + 1 => Ziq p k + if p k = true then 1 else 0
theorem Zn0 (p : Nat → Bool) : ∀ k, Ziq p k ≤ k
 | 0 => Nat.le_refl _
 | k + 1 => by have := Zn0 p k; simp only [Ziq]; split <;> omega
theorem Zhs {p q : Nat → Bool} : ∀ {k : Nat}, (∀ j, j < k → p j = true → q j = true) → Ziq p k ≤ Ziq q k
 | 0, _ => Nat.le_refl _
 | k + 1, h => by
  have ih := Zhs (k := k) fun j hj => h j (by omega)
  have h1 := h k (by omega)
  simp only [Ziq]
  by_cases e : p k = true
  · rw [if_pos e, if_pos (h1 e)]; omega
  · rw [if_neg e]; split <;> omega
theorem Zmz {p q : Nat → Bool} : ∀ {k : Nat}, (∀ j, j < k → p j = true → q j = true) → (∃ j, j < k ∧ q j = true ∧ p j = false) → Ziq p k < Ziq q k
 | 0, _, ⟨j, hj, _⟩ => by omega
 | k + 1, h, ⟨j, hj, h1, h2⟩ => by
  have h3 := h k (by omega)
  simp only [Ziq]
  by_cases e : j = k
  ·
   subst e
   have ih := Zhs (k := j) fun i hi => h i (by omega)
   rw [if_pos h1, if_neg (by rw [h2]; simp)]; omega
  ·
   have ih := Zmz (k := k) (fun i hi => h i (by omega)) ⟨j, by omega, h1, h2⟩
   by_cases e : p k = true
   · rw [if_pos e, if_pos (h3 e)]; omega
   · rw [if_neg e]; split <;> omega
def Zai (c : Csr) (R : List Int) (D : Nat → Nat) (j : Nat) : Bool := decide (0 < R.getD j 0 ∧ D (tl c j) = D (hd c j) + 1)
theorem LabD.way {R : List Int} {D E : Nat → Nat} {d : Int} {u t : Nat} {w : List Nat} (hE : LabD c L R E) (h : WayD c L R D d u w t) (d0 : 0 < d) : E u ≤ E t + w.length ∧ (E u = E t + w.length → ∀ j, j ∈ w → E (tl c j) = E (hd c j) + 1) := by
 induction h with
 | nil => exact ⟨Nat.le_refl _, fun _ j hj => by cases hj⟩
 | @cons j w t hj h0 hl hw ih =>
  obtain ⟨i1, i2⟩ := ih
  have h1 := hE j hj (by omega)
  rw [List.length_cons]
  refine ⟨by omega, fun e k hk => ?_⟩
  rcases List.mem_cons.1 hk with rfl | hk
  · omega
  · exact i2 (by omega) k hk
theorem Zjj {R X : List Int} {D E : Nat → Nat} {d : Int} {u t : Nat} {w : List Nat} (r : Row n m L c) (hr : R.length = L) (hE : LabD c L R E) (h : WayD c L R D d u w t) (d0 : 0 < d) (hmin : ∃ j, j ∈ w ∧ R.getD j 0 = d) (hlen : E u = E t + w.length) :
    LabD c L (Zel c d w R) E ∧ Ziq (Zai c (Zel c d w R) E) L < Ziq (Zai c R E) L := by
  have ht := (hE.way h d0).2 hlen
  have hup : ∀ k, k < L → rv c k ∈ w → E (hd c k) = E (tl c k) + 1 := fun k hk hm => by
    have h1 := Zj2 r (r.rev hk).2.1 (ht _ hm)
    rw [(r.rev hk).2.2.1] at h1
    exact h1
  refine ⟨fun k hk ho => ?_, Zmz (fun k hk hp => ?_) ?_⟩
  · rw [h.getR r hr hk] at ho
    by_cases e : rv c k ∈ w
    · have := hup k hk e; omega
    · rw [if_neg e] at ho
      refine hE k hk ?_
      split at ho <;> omega
  · simp only [Zai, decide_eq_true_eq] at hp ⊢
    obtain ⟨h1, h2⟩ := hp
    refine ⟨?_, h2⟩
    rw [h.getR r hr hk] at h1
    by_cases e : rv c k ∈ w
    · have := hup k hk e; omega
    · rw [if_neg e] at h1
      split at h1 <;> omega
  · obtain ⟨j, hj, hjd⟩ := hmin
    obtain ⟨hjL, -, -, -⟩ := h.mem j hj
    have h1 := ht j hj
    refine ⟨j, hjL, ?_, ?_⟩
    · simp only [Zai, decide_eq_true_eq]; exact ⟨by omega, h1⟩
    · simp only [Zai, decide_eq_false_iff_not]
      rintro ⟨h2, -⟩
      rw [h.getR r hr hjL, if_pos hj, hjd] at h2
      by_cases e : rv c j ∈ w
      · have := hup j hjL e; omega
      · rw [if_neg e] at h2; omega
def StepsD (m L : Nat) (c : Csr) (R : List Int) (s t μ : Nat) : Prop := ∃ E : Nat → Nat, LabD c L R E ∧ E t = 0 ∧ E s ≤ m ∧ (m - E s) * (L + 1) + Ziq (Zai c R E) L ≤ μ
theorem Zin (R : List Int) (s t : Nat) : StepsD m L c R s t (m * (L + 1)) := by
 have : ∀ k, Ziq (Zai c R fun _ => 0) k = 0 := fun k => by
  induction k with
  | zero => rfl
  | succ k ih => simp only [Ziq, ih, Zai]; simp
 exact ⟨fun _ => 0, fun j _ _ => Nat.zero_le _, rfl, Nat.zero_le _, by rw [this]; exact Nat.le_refl _⟩
theorem StepsD.step {R : List Int} {D : Nat → Nat} {d : Int} {s t μ : Nat} {w : List Nat} (r : Row n m L c) (hr : R.length = L) (h : WayD c L R D d s w t) (hD : LabD c L R D) (hDt : D t = 0) (hDs : D s < m) (d0 : 0 < d) (hmin : ∃ j, j ∈ w ∧ R.getD j 0 = d) (hS : StepsD m L c R s t μ) :
    ∃ ν, ν + 1 ≤ μ ∧ StepsD m L c (Zel c d w R) s t ν := by
  obtain ⟨E, hE, hEt, hEs, hμ⟩ := hS
  have hlen := h.len
  have h1 := (hE.way h d0).1
  have ht := Zn0 (Zai c R D) L
  by_cases e : E s = D s
  · obtain ⟨g1, g2⟩ := Zjj (X := []) r hr hE h d0 hmin (by omega)
    exact ⟨(m - E s) * (L + 1) + Ziq (Zai c (Zel c d w R) E) L, by omega, E, g1, hEt, hEs, Nat.le_refl _⟩
  · obtain ⟨g1, g2⟩ := Zjj (X := []) r hr hD h d0 hmin (by omega)
    refine ⟨(m - D s) * (L + 1) + Ziq (Zai c (Zel c d w R) D) L, ?_, D, g1, hDt, by omega, Nat.le_refl _⟩
    have h2 : (m - D s + 1) * (L + 1) ≤ (m - E s) * (L + 1) := Nat.mul_le_mul_right _ (by omega)
    rw [Nat.add_mul] at h2
    omega
end row
end Go.Acq
