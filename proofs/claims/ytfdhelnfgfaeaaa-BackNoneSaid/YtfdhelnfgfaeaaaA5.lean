/- Texts of this claim, one behind the other. -/
import Derived.Test.YtfdhelnfgfaeaaaA2
import Derived.Test.YtfdhelnfgfaeaaaA4
import Derived.Test.YtfdhelnfgfaeaaaA1
set_option linter.unusedVariables false
set_option linter.unusedSimpArgs false
namespace Go.Proofs.Ytfdhelnfgfaeaaa.Ax
open Go Go.Acq Go.RowKit Go.Proofs
set_option linter.unusedVariables false
set_option linter.unusedSimpArgs false
set_option maxHeartbeats 8000000
set_option maxRecDepth 20000
theorem Z4s : Zc3 Try.prog 24 4 = true := by kernel_rfl
theorem Zcw : Z5p Try.prog 2 = some 8 := by kernel_rfl
theorem Zc1 : Z5p Try.prog 35 = some 24 := by kernel_rfl
theorem Zc0 : Z0o Try.prog 15 = true := by kernel_rfl
theorem Z79 : Z0o Try.prog 36 = true := by kernel_rfl
theorem Zbz : Z0o Try.prog 37 = true := by kernel_rfl
theorem Zby : Z0o Try.prog 38 = true := by kernel_rfl
theorem Zb2 : Z2a Try.prog 24 0 = some 0 := by kernel_rfl
theorem Z8b : Z2a Try.prog 24 1 = some 1 := by kernel_rfl
theorem Zb1 : Z2a Try.prog 24 2 = some 2 := by kernel_rfl
theorem Z6q : Z2a Try.prog 24 3 = some 3 := by kernel_rfl
theorem Zcv : intT Try.prog 2 = some .i64 := by kernel_rfl
theorem Zcu : intT Try.prog 3 = some .i64 := by kernel_rfl
theorem Z78 : Z1f Try.prog 22 = some 35 := by kernel_rfl
theorem Z34 : Z1f Try.prog 26 = some 2 := by kernel_rfl
theorem Z6p : Z1p Try.prog 2 = some 1 := by kernel_rfl
theorem Zbx : Z1p Try.prog 22 = some 1 := by kernel_rfl
theorem Zbw : Z1p Try.prog 24 = some 4 := by kernel_rfl
theorem Z9a : Z1p Try.prog 35 = some 3 := by kernel_rfl
theorem Zbv : (Try.prog.underlying 46).isSome = true := by kernel_rfl
theorem Zct : (Try.prog.underlying 5).isSome = true := by kernel_rfl
theorem Z99 : Z30 Try.prog 22 = true := by kernel_rfl
theorem Z6o : Z30 Try.prog 3 = true := by kernel_rfl
theorem Zcs : Z4k Try.prog 2 = some (.int .i64 0) := by kernel_rfl
theorem Z98 : Z4k Try.prog 35 = some (.agg #[.int .i64 0, .int .i64 0, .int .i64 0]) := by kernel_rfl
theorem Zbu : ElemT Try.prog 22 35 3 24 (.agg #[.int .i64 0, .int .i64 0, .int .i64 0]) := ⟨Z78, Z9a, Zc1, Z98, rfl⟩
theorem w_acequialaw23_BackNone {n0 : Net} {v1 : Int} {d2 : Int} {n0f3_b : Option Addr} {n0f3_n : Nat} {n0f3_c : Nat} (w : World) (h_n0f3 : RS w [] Z54 3 n0f3_b n0f3_n n0f3_c n0.Arcs) {r0 : Bool} (H : Z3c n0 v1 d2 = some r0) : Fnc Try.prog 11 #[.agg #[.int .i64 n0.N, .int .i64 n0.S, .int .i64 n0.T, .slice n0f3_b n0f3_n n0f3_c], .int .u8 v1, .int .u16 d2] w [] (fun v N => v = .bool r0 ∧ N = []) := by
 unfold Z3c at H; refine Fnc.enter (vs := [.agg #[.int .i64 n0.N, .int .i64 n0.S, .int .i64 n0.T, .slice n0f3_b n0f3_n n0f3_c], .int .u8 v1, .int .u16 d2]) Try.func11 rfl rfl (Inv.refl w) ?_; refine Z0b ?_; refine Z03 (ll := [0, 1]) rfl ?_; refine Z2j rfl rfl rfl rfl ?_; intro b1; refine Z06 rfl rfl rfl rfl ?_; refine Z04 ?_; refine Z01 ?_; refine Z0b ?_; obtain ⟨r3, e4, H⟩ := Z0k H; refine Z03 (ll := [0, 1, 2]) rfl ?_; refine Z11 rfl rfl rfl rfl Z4s mm0 rfl ?_; refine Z0n Zc0 rfl rfl rfl rfl (fun wc hwc => Zbb (n0 := n0) (verts1 := 12) (arcs2 := 30) wc (h_n0f3.mono hwc) e4) ?_; rintro _ _ ⟨f6, n6, c7, j8, rfl, rfl, d6, f7, f8, f9⟩; refine Z2z rfl rfl rfl rfl tk1 Zbw rfl rfl rfl ?_; refine Z04 ?_; refine Z01 ?_; refine Z0b ?_; obtain ⟨h4, H⟩ := Z0c H; obtain ⟨i9, H⟩ := Z0c H; refine Z03 (ll := [0, 1, 2, 3, 4, 5]) rfl ?_; refine Z05 rfl rfl rfl rfl ?_; refine Zb9 rfl rfl rfl rfl Zct Zcu (Z66 h4.1 h4.2) ?_; refine Z08 rfl rfl rfl rfl Zb2 ?_; refine Z0d rfl rfl rfl rfl Z6o mm0 rfl ?_; refine TO.rem rfl rfl rfl rfl rfl i9 ?_; refine Z06 rfl rfl rfl rfl ?_; refine Z04 ?_; refine Z01 ?_; refine Z0l (Z00 (t := 2) rfl (Z00 (t := 3) rfl (Z00 (t := 7) rfl Z09))) ?_; refine Z0b ?_; refine Z0b ?_; refine Z03 (ll := [0, 1, 2, 3]) rfl ?_; refine Z05 rfl rfl rfl rfl ?_; refine Z08 rfl rfl rfl rfl Z8b ?_; refine Z0d rfl rfl rfl rfl Z6o mm0 rfl ?_; refine Z0p rfl rfl rfl rfl rfl rfl ?_; refine Z04 ?_; refine Z01 ?_; refine Z1w (fun (a2 : Int) => Z1j d2 r3 a2 = some r0) (fun (a2 : Int) => [(2, .int .u16 d2), (3, .pointer (some ⟨b1, 0, none⟩)), (7, .int .i64 a2)]) (fun (a2 : Int) => [(some b1, .cells #[.int .i64 r3.N, .int .i64 r3.S, .int .i64 r3.T, .slice (sb f6) n6 c7] 24 (0, 0)), (f6, .cells (arr Z54 r3.Arcs j8).toArray 35 (0, 0))]) ?_ ?_
 ·
  rcases Z0i H with ⟨g0, H⟩ | ⟨g0, H⟩
  · refine Z0v rfl g0 ?_; refine Z03 (ll := [0, 1, 2]) rfl ?_; refine Z08 rfl rfl rfl rfl Zb1 ?_; refine Z0d rfl rfl rfl rfl Z6o mm0 rfl ?_; refine Z06 rfl rfl rfl rfl ?_; refine Z04 ?_; exact Z2o r3.T H (Z00 rfl (Z00 rfl (Z00 rfl Z09))) (Z02 tk0 (Z02 tk0 Z0a))
  · refine Z0w rfl g0 ?_; refine T.skip ?_; exact Z2o (v1.tmod r3.N) H (Z00 rfl (Z00 rfl (Z00 rfl Z09))) (Z02 tk0 (Z02 tk0 Z0a))
 ·
  rintro a2 H; unfold Z1j at H; refine Z0b ?_; obtain ⟨j0, H⟩ := Z0c H; refine Z03 (ll := [0, 1, 2, 3, 4, 5, 6, 7, 8, 9]) rfl ?_; refine Z08 rfl rfl rfl rfl Z6q ?_; refine Z0d rfl rfl rfl rfl Z99 mm0 rfl ?_; refine Z05 rfl rfl rfl rfl ?_; refine Z08 rfl rfl rfl rfl Z8b ?_; refine Z0d rfl rfl rfl rfl Z6o mm0 rfl ?_; refine Z3k (t := 35) [.int .i64 0, .int .i64 0, .int .i64 0] [0, 1, 2] rfl rfl rfl rfl (by simp only [Z3d, setCells, Value.cells, List.toList_toArray, List.getD_cons_zero, List.getD_cons_succ, List.set_cons_zero, List.set_cons_succ]; rfl) (by kernel_rfl) ?_; refine Z1i [.int .i64 0, .int .i64 0, .int .i64 0] [0] rfl rfl rfl rfl Z78 Z9a Z98 rfl rfl (by simp only [Z3d, setCells, Value.cells, List.toList_toArray, List.getD_cons_zero, List.getD_cons_succ, List.set_cons_zero, List.set_cons_succ]; rfl) (by kernel_rfl) ?_; intro d7; refine Zbp (f := Z54) (s := 3) (xs := r3.Arcs) (ob := f6) (j := j8) (ys := [(Arc.mk a2 r3.S 65536)]) (fun _ => rfl) (fun _ => rfl) Zbu j0 rfl rfl rfl rfl rfl tk2 d6 f7 f8 f9 (fun wc hwc => (hwc.rs (f := Z54) (s := 3) (xs := [(Arc.mk a2 r3.S 65536)]) (j := ([])) (fun _ => rfl) mm0 rfl (Nat.le_refl _) Z77)) ?_; intro a4 c22 c8 c9 j1 d0; refine Z08 rfl rfl rfl rfl Z6q ?_; refine Z4x (cs' := [.int .i64 r3.N, .int .i64 r3.S, .int .i64 r3.T, .slice (sb a4) (n6 + 1) c22]) rfl rfl rfl rfl tk2 Zbx rfl rfl rfl ?_; refine Z04 ?_; refine Z01 ?_; refine Z0l (Z00 (t := 2) rfl (Z00 (t := 3) rfl Z09)) ?_; refine Z0b ?_; obtain ⟨j2, H⟩ := Z0c H; refine Z03 (ll := [0, 1, 2, 3, 4]) rfl ?_; refine Z08 rfl rfl rfl rfl Z6q ?_; refine Z0d rfl rfl rfl rfl Z99 mm0 rfl ?_; refine Z1m (xs := (r3.Arcs ++ ([(Arc.mk a2 r3.S 65536)]))) (Z73 d6 rfl) rfl rfl rfl rfl rfl Z78 ?_; refine Zhc j2 rfl rfl rfl rfl rfl Z34 Z6p Zcs Zcw rfl ?_; intro d8; refine Z06 rfl rfl rfl rfl ?_; refine Z04 ?_; refine Z01 ?_; refine Z0b ?_; obtain ⟨⟨d1, l1⟩, j3, H⟩ := Z0k H; refine Z03 (ll := [0, 1, 2, 3, 4, 5, 6, 7]) rfl ?_; refine Z11 rfl rfl rfl rfl Z4s mm1 rfl ?_; refine Z05 rfl rfl rfl rfl ?_; refine Z0n Z79 rfl rfl rfl rfl (fun wc hwc => Z8w (n0 := (Net.mk r3.N r3.S r3.T (r3.Arcs ++ ([(Arc.mk a2 r3.S 65536)])))) (f1 := (List.replicate (((r3.Arcs ++ ([(Arc.mk a2 r3.S 65536)])).length : Int).toNat) (0 : Int))) wc (hwc.rs (f := Z54) (s := 3) (xs := (r3.Arcs ++ ([(Arc.mk a2 r3.S 65536)]))) (j := c8) (fun _ => rfl) mm2 (Z73 d6 rfl) c9 d0) (hwc.rs (f := (intC .i64)) (s := 1) (xs := (List.replicate (((r3.Arcs ++ ([(Arc.mk a2 r3.S 65536)])).length : Int).toNat) (0 : Int))) (j := ([])) (fun _ => rfl) mm0 List.length_replicate (Nat.le_refl _) Z77) j3) ?_; rintro _ _ ⟨b0, n35, c36, d9, rfl, rfl, g1, j4, j5, j6⟩; refine Z05 rfl rfl rfl rfl ?_; refine TO.extract rfl rfl rfl rfl rfl ?_; refine TO.extract rfl rfl rfl rfl rfl ?_; refine Z06 rfl rfl rfl rfl ?_; refine Z06 rfl rfl rfl rfl ?_; refine Z04 ?_; refine Z01 ?_; refine Z0l (Z00 (t := 2) rfl (Z00 (t := 3) rfl (Z00 (t := 8) rfl (Z00 (t := 9) rfl (Z00 (t := 10) rfl Z09))))) ?_; refine Z0b ?_; obtain ⟨j7, H⟩ := Z0c H; obtain ⟨h5, H⟩ := Z0c H; obtain ⟨j9, H⟩ := Z0c H; obtain ⟨h6, H⟩ := Z0c H; refine Z03 (ll := [0, 1, 2, 3, 4, 5, 6, 7, 8]) rfl ?_; refine Z05 rfl rfl rfl rfl ?_; refine Z05 rfl rfl rfl rfl ?_; refine Z1m (xs := (List.replicate (((r3.Arcs ++ ([(Arc.mk a2 r3.S 65536)])).length : Int).toNat) (0 : Int))) List.length_replicate rfl rfl rfl rfl rfl Z34 ?_; refine Z7a j7 rfl rfl rfl rfl rfl ?_; refine Z05 rfl rfl rfl rfl ?_; refine Zb9 rfl rfl rfl rfl Zbv Zcv (Z66 h5.1 h5.2) ?_; refine Z1h j9 rfl rfl rfl rfl rfl ?_; refine Z85 List.length_replicate h6 rfl rfl rfl rfl rfl Z34 Z6p ?_; refine Zbk h6 rfl rfl rfl rfl tk1 Z6p ?_; refine Z04 ?_; refine Z01 ?_; refine Z0l (Z00 (t := 3) rfl (Z00 (t := 8) rfl (Z00 (t := 9) rfl (Z00 (t := 10) rfl Z09)))) ?_; refine Z0b ?_; obtain ⟨⟨e0, g2⟩, k1, H⟩ := Z0k H; refine Z03 (ll := [0, 1, 2, 3, 4, 5, 6, 7]) rfl ?_; refine Z11 rfl rfl rfl rfl Z4s mm2 rfl ?_; refine Z05 rfl rfl rfl rfl ?_; refine Z0n Z79 rfl rfl rfl rfl (fun wc hwc => Z8w (n0 := (Net.mk r3.N r3.S r3.T (r3.Arcs ++ ([(Arc.mk a2 r3.S 65536)])))) (f1 := ((List.replicate (((r3.Arcs ++ ([(Arc.mk a2 r3.S 65536)])).length : Int).toNat) (0 : Int)).set (((List.replicate (((r3.Arcs ++ ([(Arc.mk a2 r3.S 65536)])).length : Int).toNat) (0 : Int)).length : Int) - 1).toNat (d2 + 1))) wc (hwc.rs (f := Z54) (s := 3) (xs := (r3.Arcs ++ ([(Arc.mk a2 r3.S 65536)]))) (j := c8) (fun _ => rfl) mm3 (Z73 d6 rfl) c9 d0) (hwc.rs (f := (intC .i64)) (s := 1) (xs := ((List.replicate (((r3.Arcs ++ ([(Arc.mk a2 r3.S 65536)])).length : Int).toNat) (0 : Int)).set (((List.replicate (((r3.Arcs ++ ([(Arc.mk a2 r3.S 65536)])).length : Int).toNat) (0 : Int)).length : Int) - 1).toNat (d2 + 1))) (j := ([])) (fun _ => rfl) mm0 (List.length_set.trans List.length_replicate) (Nat.le_refl _) Z77) k1) ?_; rintro _ _ ⟨b5, l3, l4, e1, rfl, rfl, k2, k3, k4, k5⟩; refine Z05 rfl rfl rfl rfl ?_; refine TO.extract rfl rfl rfl rfl rfl ?_; refine TO.extract rfl rfl rfl rfl rfl ?_; refine Z06 rfl rfl rfl rfl ?_; refine Z06 rfl rfl rfl rfl ?_; refine Z04 ?_; refine Z01 ?_; refine Z0b ?_; obtain ⟨⟨l5, e2⟩, k6, H⟩ := Z0k H; refine Z03 (ll := [0, 1, 2, 3, 4, 5, 6, 7]) rfl ?_; refine Z11 rfl rfl rfl rfl Z4s mm3 rfl ?_; refine Z05 rfl rfl rfl rfl ?_; refine Z0n Zbz rfl rfl rfl rfl (fun wc hwc => Zc9 (n0 := (Net.mk r3.N r3.S r3.T (r3.Arcs ++ ([(Arc.mk a2 r3.S 65536)])))) (f1 := ((List.replicate (((r3.Arcs ++ ([(Arc.mk a2 r3.S 65536)])).length : Int).toNat) (0 : Int)).set (((List.replicate (((r3.Arcs ++ ([(Arc.mk a2 r3.S 65536)])).length : Int).toNat) (0 : Int)).length : Int) - 1).toNat (d2 + 1))) wc (hwc.rs (f := Z54) (s := 3) (xs := (r3.Arcs ++ ([(Arc.mk a2 r3.S 65536)]))) (j := c8) (fun _ => rfl) mm4 (Z73 d6 rfl) c9 d0) (hwc.rs (f := (intC .i64)) (s := 1) (xs := ((List.replicate (((r3.Arcs ++ ([(Arc.mk a2 r3.S 65536)])).length : Int).toNat) (0 : Int)).set (((List.replicate (((r3.Arcs ++ ([(Arc.mk a2 r3.S 65536)])).length : Int).toNat) (0 : Int)).length : Int) - 1).toNat (d2 + 1))) (j := ([])) (fun _ => rfl) mm1 (List.length_set.trans List.length_replicate) (Nat.le_refl _) Z77) k6) ?_; rintro _ _ ⟨rfl, rfl⟩; refine Z05 rfl rfl rfl rfl ?_; refine TO.extract rfl rfl rfl rfl rfl ?_; refine TO.extract rfl rfl rfl rfl rfl ?_; refine Z06 rfl rfl rfl rfl ?_; refine Z06 rfl rfl rfl rfl ?_; refine Z04 ?_; refine Z01 ?_; refine Z0l (Z00 (t := 3) rfl (Z00 (t := 8) rfl (Z00 (t := 9) rfl (Z00 (t := 10) rfl (Z00 (t := 12) rfl (Z00 (t := 14) rfl Z09)))))) ?_; refine Z0b ?_; obtain ⟨k7, H⟩ := Z0c H; obtain ⟨h7, H⟩ := Z0c H; obtain ⟨⟨d4, c3⟩, k8, H⟩ := Z0k H; apply Zf7 [⟨[], false, [], Z4g _⟩, ⟨[], false, [], Z4g _⟩, ⟨[], false, [], Z4g _⟩, ⟨[2], false, [], Z4g _⟩, ⟨[3], false, [], Z4g _⟩, ⟨[1, 4], false, [], Z4g _⟩, ⟨[0, 5], false, [], fun _ v e => ∃ (a3 : Option Nat) (a6 : Nat) (c69 : Nat) (a7 : List Value), v = .tuple #[.slice (sb a3) a6 c69, .int .i64 c3] ∧ e = [(a3, .cells (arr (intC .i64) d4 a7).toArray 2 (0, 0))] ∧ d4.length = a6 ∧ a6 ≤ c69 ∧ a7.length = (c69 - a6) * 1 ∧ (a3 = none → c69 = 0)⟩, ⟨[6], false, [], fun vl v e => v = (vl.getD 0 undef) ∧ e = []⟩, ⟨[6, 7], false, [], fun vl v e => v = (tupAt (vl.getD 1 undef) 0) ∧ e = []⟩, ⟨[6, 7], false, [], Z4g _⟩, ⟨[6, 7, 8], false, [], fun vl v e => v = (vl.getD 2 undef) ∧ e = []⟩] [70, 71, 72, 73, 74, 75, 76, 69, 77, 78, 15] 11 (HRk [[]]) [[]] [] [(b5, .cells (arr (intC .i64) e0 e1).toArray 2 (0, 0)), (some d8, .cells (arr (intC .i64) ((List.replicate (((r3.Arcs ++ ([(Arc.mk a2 r3.S 65536)])).length : Int).toNat) (0 : Int)).set (((List.replicate (((r3.Arcs ++ ([(Arc.mk a2 r3.S 65536)])).length : Int).toNat) (0 : Int)).length : Int) - 1).toNat (d2 + 1)) ([])).toArray 2 (0, 0)), (b0, .cells (arr (intC .i64) d1 d9).toArray 2 (0, 0)), (some b1, .cells #[.int .i64 r3.N, .int .i64 r3.S, .int .i64 r3.T, .slice (sb a4) (n6 + 1) c22] 24 (0, 0)), (a4, .cells (arr Z54 (r3.Arcs ++ ([(Arc.mk a2 r3.S 65536)])) c8).toArray 35 (0, 0)), (some d7, .cells (arr Z54 ([(Arc.mk a2 r3.S 65536)]) ([])).toArray 35 (0, 0))]
  · exact Z8f
  · exact rfl
  · kernel_rfl
  · kernel_rfl
  · kernel_rfl
  · exact rfl
  · exact rfl
  · exact rfl
  · exact rfl
  · exact (by repeat (first | exact Z07 _ | exact Z0a | apply Pick.none | refine Z02 (by repeat (first | exact Take.head _ _ | apply Take.tail)) ?_))
  ·
   refine ⟨?_, ?_, ?_, ?_, ?_, ?_, ?_, ?_, ?_, ?_, ?_, trivial⟩
   · rintro vs es Es Hx -; refine Z0e (D := []) rfl ?_; refine Z11 rfl rfl rfl rfl Z4s mm3 rfl ?_; refine Z04 ?_; exact Z14 rfl ⟨rfl, rfl⟩ (Z07 _) rfl
   · rintro vs es Es Hx -; refine Z0e (D := []) rfl ?_; refine Z05 rfl rfl rfl rfl ?_; refine Z04 ?_; exact Z14 rfl ⟨rfl, rfl⟩ (Z07 _) rfl
   · rintro vs es Es Hx -; refine Z0e (D := []) rfl ?_; refine Z05 rfl rfl rfl rfl ?_; refine Z04 ?_; exact Z14 rfl ⟨rfl, rfl⟩ (Z07 _) rfl
   · rintro vs es Es Hx ⟨⟨e3, g3⟩, -⟩; refine Z0e (D := [(72, vs 2)]) rfl ?_; rw [e3]; refine Z1m (xs := ((List.replicate (((r3.Arcs ++ ([(Arc.mk a2 r3.S 65536)])).length : Int).toNat) (0 : Int)).set (((List.replicate (((r3.Arcs ++ ([(Arc.mk a2 r3.S 65536)])).length : Int).toNat) (0 : Int)).length : Int) - 1).toNat (d2 + 1))) (List.length_set.trans List.length_replicate) rfl rfl rfl rfl rfl Z34 ?_; refine Z04 ?_; exact Z14 rfl ⟨rfl, rfl⟩ (Z07 _) (by show [(72, vs 2)] = _; rw [e3])
   · rintro vs es Es Hx ⟨⟨e5, g4⟩, -⟩; refine Z0e (D := [(73, vs 3)]) rfl ?_; rw [e5]; refine Z7a k7 rfl rfl rfl rfl rfl ?_; refine Z04 ?_; exact Z14 rfl ⟨rfl, rfl⟩ (Z07 _) (by show [(73, vs 3)] = _; rw [e5])
   · rintro vs es Es Hx ⟨⟨e6, g5⟩, ⟨e7, g6⟩, -⟩; refine Z0e (D := [(71, vs 1), (74, vs 4)]) rfl ?_; rw [e6, e7]; refine TO.slH (xs := ((List.replicate (((r3.Arcs ++ ([(Arc.mk a2 r3.S 65536)])).length : Int).toNat) (0 : Int)).set (((List.replicate (((r3.Arcs ++ ([(Arc.mk a2 r3.S 65536)])).length : Int).toNat) (0 : Int)).length : Int) - 1).toNat (d2 + 1))) (List.length_set.trans List.length_replicate) (Nat.le_refl _) h7 rfl rfl rfl rfl rfl Z34 Z6p ?_; refine Z04 ?_; exact Z14 rfl ⟨rfl, rfl⟩ (Z07 _) (by show [(71, vs 1), (74, vs 4)] = _; rw [e6, e7])
   · rintro vs es Es Hx ⟨⟨e8, g7⟩, ⟨e9, g8⟩, -⟩; refine Z0e (D := [(70, vs 0), (75, vs 5)]) rfl ?_; rw [e8, e9]; refine Z0n Z79 rfl rfl rfl rfl (fun wc hwc => Z8w (n0 := (Net.mk r3.N r3.S r3.T (r3.Arcs ++ ([(Arc.mk a2 r3.S 65536)])))) (f1 := (((List.replicate (((r3.Arcs ++ ([(Arc.mk a2 r3.S 65536)])).length : Int).toNat) (0 : Int)).set (((List.replicate (((r3.Arcs ++ ([(Arc.mk a2 r3.S 65536)])).length : Int).toNat) (0 : Int)).length : Int) - 1).toNat (d2 + 1)).take ((((List.replicate (((r3.Arcs ++ ([(Arc.mk a2 r3.S 65536)])).length : Int).toNat) (0 : Int)).set (((List.replicate (((r3.Arcs ++ ([(Arc.mk a2 r3.S 65536)])).length : Int).toNat) (0 : Int)).length : Int) - 1).toNat (d2 + 1)).length : Int) - 1).toNat)) wc (hwc.rs (f := Z54) (s := 3) (xs := (r3.Arcs ++ ([(Arc.mk a2 r3.S 65536)]))) (j := c8) (fun _ => rfl) mm4 (Z73 d6 rfl) c9 d0) (RS.take (hwc.rs (f := (intC .i64)) (s := 1) (xs := ((List.replicate (((r3.Arcs ++ ([(Arc.mk a2 r3.S 65536)])).length : Int).toNat) (0 : Int)).set (((List.replicate (((r3.Arcs ++ ([(Arc.mk a2 r3.S 65536)])).length : Int).toNat) (0 : Int)).length : Int) - 1).toNat (d2 + 1))) (j := ([])) (fun _ => rfl) mm1 (List.length_set.trans List.length_replicate) (Nat.le_refl _) Z77) h7) k8) ?_; rintro _ _ ⟨a3, a6, c69, a7, rfl, rfl, b6, b7, b8, b9⟩; refine Z04 ?_; exact Z14 rfl ⟨a3, a6, c69, a7, rfl, rfl, b6, b7, b8, b9⟩ (by repeat (first | exact Z07 _ | exact Z0a | apply Pick.none | refine Z02 (by repeat (first | exact Take.head _ _ | apply Take.tail)) ?_)) (by show [(70, vs 0), (75, vs 5)] = _; rw [e8, e9])
   · rintro vs es Es Hx ⟨⟨a3, a6, c69, a7, a5, a8, b6, b7, b8, b9⟩, -⟩; refine Z0e (D := [(76, vs 6)]) rfl ?_; rw [a5]; refine Z13 (H := [(b5, .cells (arr (intC .i64) e0 e1).toArray 2 (0, 0)), (some d8, .cells (arr (intC .i64) ((List.replicate (((r3.Arcs ++ ([(Arc.mk a2 r3.S 65536)])).length : Int).toNat) (0 : Int)).set (((List.replicate (((r3.Arcs ++ ([(Arc.mk a2 r3.S 65536)])).length : Int).toNat) (0 : Int)).length : Int) - 1).toNat (d2 + 1)) ([])).toArray 2 (0, 0)), (b0, .cells (arr (intC .i64) d1 d9).toArray 2 (0, 0)), (some b1, .cells #[.int .i64 r3.N, .int .i64 r3.S, .int .i64 r3.T, .slice (sb a4) (n6 + 1) c22] 24 (0, 0)), (a4, .cells (arr Z54 (r3.Arcs ++ ([(Arc.mk a2 r3.S 65536)])) c8).toArray 35 (0, 0)), (some d7, .cells (arr Z54 ([(Arc.mk a2 r3.S 65536)]) ([])).toArray 35 (0, 0))] ++ ([(a3, .cells (arr (intC .i64) d4 a7).toArray 2 (0, 0))] ++ Hx)) (by show _ ++ ((es 6 ++ ([])) ++ _) = _; rw [a8]; rfl) ?_; refine Z05 rfl rfl rfl rfl ?_; refine Z04 ?_; exact Z14 rfl ⟨by show _ = vs 6; rw [a5] <;> rfl, rfl⟩ (by show Pick (_ ++ (_ ++ ((es 6 ++ ([])) ++ _))) _; rw [a8]; exact (by repeat (first | exact Z07 _ | exact Z0a | apply Pick.none | refine Z02 (by repeat (first | exact Take.head _ _ | apply Take.tail)) ?_))) (by show [(76, vs 6)] = _; rw [a5])
   ·
    rintro vs es Es Hx ⟨⟨a3, a6, c69, a7, a5, a8, b6, b7, b8, b9⟩, ⟨d3, c4⟩, -⟩; have a9 : vs 7 = .tuple #[.slice (sb a3) a6 c69, .int .i64 c3] := by refine Eq.trans d3 ?_; show vs 6 = _; rw [a5] <;> rfl
    refine Z0e (D := [(76, vs 6), (69, vs 7)]) rfl ?_; rw [a5, a9]; refine Z13 (H := [(b5, .cells (arr (intC .i64) e0 e1).toArray 2 (0, 0)), (some d8, .cells (arr (intC .i64) ((List.replicate (((r3.Arcs ++ ([(Arc.mk a2 r3.S 65536)])).length : Int).toNat) (0 : Int)).set (((List.replicate (((r3.Arcs ++ ([(Arc.mk a2 r3.S 65536)])).length : Int).toNat) (0 : Int)).length : Int) - 1).toNat (d2 + 1)) ([])).toArray 2 (0, 0)), (b0, .cells (arr (intC .i64) d1 d9).toArray 2 (0, 0)), (some b1, .cells #[.int .i64 r3.N, .int .i64 r3.S, .int .i64 r3.T, .slice (sb a4) (n6 + 1) c22] 24 (0, 0)), (a4, .cells (arr Z54 (r3.Arcs ++ ([(Arc.mk a2 r3.S 65536)])) c8).toArray 35 (0, 0)), (some d7, .cells (arr Z54 ([(Arc.mk a2 r3.S 65536)]) ([])).toArray 35 (0, 0))] ++ ([(a3, .cells (arr (intC .i64) d4 a7).toArray 2 (0, 0))] ++ Hx)) (by show _ ++ ((es 6 ++ (es 7 ++ ([]))) ++ _) = _; rw [a8, c4]; rfl) ?_; refine TO.extract rfl rfl rfl rfl rfl ?_; refine Z04 ?_; exact Z14 rfl ⟨by show _ = (tupAt (vs 7) 0); rw [a9] <;> rfl, rfl⟩ (by show Pick (_ ++ (_ ++ ((es 6 ++ (es 7 ++ ([]))) ++ _))) _; rw [a8, c4]; exact (by repeat (first | exact Z07 _ | exact Z0a | apply Pick.none | refine Z02 (by repeat (first | exact Take.head _ _ | apply Take.tail)) ?_))) (by show [(76, vs 6), (69, vs 7)] = _; rw [a5, a9])
   ·
    rintro vs es Es Hx ⟨⟨a3, a6, c69, a7, a5, a8, b6, b7, b8, b9⟩, ⟨d3, c4⟩, -⟩; have a9 : vs 7 = .tuple #[.slice (sb a3) a6 c69, .int .i64 c3] := by refine Eq.trans d3 ?_; show vs 6 = _; rw [a5] <;> rfl
    refine Z0e (D := [(76, vs 6), (69, vs 7)]) rfl ?_; rw [a5, a9]; refine Z13 (H := [(b5, .cells (arr (intC .i64) e0 e1).toArray 2 (0, 0)), (some d8, .cells (arr (intC .i64) ((List.replicate (((r3.Arcs ++ ([(Arc.mk a2 r3.S 65536)])).length : Int).toNat) (0 : Int)).set (((List.replicate (((r3.Arcs ++ ([(Arc.mk a2 r3.S 65536)])).length : Int).toNat) (0 : Int)).length : Int) - 1).toNat (d2 + 1)) ([])).toArray 2 (0, 0)), (b0, .cells (arr (intC .i64) d1 d9).toArray 2 (0, 0)), (some b1, .cells #[.int .i64 r3.N, .int .i64 r3.S, .int .i64 r3.T, .slice (sb a4) (n6 + 1) c22] 24 (0, 0)), (a4, .cells (arr Z54 (r3.Arcs ++ ([(Arc.mk a2 r3.S 65536)])) c8).toArray 35 (0, 0)), (some d7, .cells (arr Z54 ([(Arc.mk a2 r3.S 65536)]) ([])).toArray 35 (0, 0))] ++ ([(a3, .cells (arr (intC .i64) d4 a7).toArray 2 (0, 0))] ++ Hx)) (by show _ ++ ((es 6 ++ (es 7 ++ ([]))) ++ _) = _; rw [a8, c4]; rfl) ?_; refine TO.extract rfl rfl rfl rfl rfl ?_; refine Z04 ?_; exact Z14 rfl ⟨rfl, rfl⟩ (by show Pick (_ ++ (_ ++ ((es 6 ++ (es 7 ++ ([]))) ++ _))) _; rw [a8, c4]; exact (by repeat (first | exact Z07 _ | exact Z0a | apply Pick.none | refine Z02 (by repeat (first | exact Take.head _ _ | apply Take.tail)) ?_))) (by show [(76, vs 6), (69, vs 7)] = _; rw [a5, a9])
   ·
    rintro vs es Es Hx ⟨⟨a3, a6, c69, a7, a5, a8, b6, b7, b8, b9⟩, ⟨d3, c4⟩, ⟨f5, f0⟩, -⟩; have a9 : vs 7 = .tuple #[.slice (sb a3) a6 c69, .int .i64 c3] := by refine Eq.trans d3 ?_; show vs 6 = _; rw [a5] <;> rfl
    have d5 : vs 8 = .slice (sb a3) a6 c69 := by refine Eq.trans f5 ?_; show (tupAt (vs 7) 0) = _; rw [a9] <;> rfl
    refine Z0e (D := [(76, vs 6), (69, vs 7), (77, vs 8)]) rfl ?_; rw [a5, a9, d5]; refine Z13 (H := [(b5, .cells (arr (intC .i64) e0 e1).toArray 2 (0, 0)), (some d8, .cells (arr (intC .i64) ((List.replicate (((r3.Arcs ++ ([(Arc.mk a2 r3.S 65536)])).length : Int).toNat) (0 : Int)).set (((List.replicate (((r3.Arcs ++ ([(Arc.mk a2 r3.S 65536)])).length : Int).toNat) (0 : Int)).length : Int) - 1).toNat (d2 + 1)) ([])).toArray 2 (0, 0)), (b0, .cells (arr (intC .i64) d1 d9).toArray 2 (0, 0)), (some b1, .cells #[.int .i64 r3.N, .int .i64 r3.S, .int .i64 r3.T, .slice (sb a4) (n6 + 1) c22] 24 (0, 0)), (a4, .cells (arr Z54 (r3.Arcs ++ ([(Arc.mk a2 r3.S 65536)])) c8).toArray 35 (0, 0)), (some d7, .cells (arr Z54 ([(Arc.mk a2 r3.S 65536)]) ([])).toArray 35 (0, 0))] ++ ([(a3, .cells (arr (intC .i64) d4 a7).toArray 2 (0, 0))] ++ Hx)) (by show _ ++ ((es 6 ++ (es 7 ++ (es 8 ++ ([])))) ++ _) = _; rw [a8, c4, f0]; rfl) ?_; refine Z06 rfl rfl rfl rfl ?_; refine Z04 ?_; exact Z14 rfl ⟨by show _ = vs 8; rw [d5] <;> rfl, rfl⟩ (by show Pick (_ ++ (_ ++ ((es 6 ++ (es 7 ++ (es 8 ++ ([])))) ++ _))) _; rw [a8, c4, f0]; exact (by repeat (first | exact Z07 _ | exact Z0a | apply Pick.none | refine Z02 (by repeat (first | exact Take.head _ _ | apply Take.tail)) ?_))) (by show [(76, vs 6), (69, vs 7), (77, vs 8)] = _; rw [a5, a9, d5])
  ·
   rintro vs es hb ⟨⟨e8, g7⟩, ⟨e6, g5⟩, ⟨e3, g3⟩, ⟨e5, g4⟩, ⟨e7, g6⟩, ⟨e9, g8⟩, ⟨a3, a6, c69, a7, a5, a8, b6, b7, b8, b9⟩, ⟨d3, c4⟩, ⟨f5, f0⟩, ⟨h8, h9⟩, ⟨f2, f3⟩, -⟩ hHR; obtain rfl : hb = [] := hHR; have a9 : vs 7 = .tuple #[.slice (sb a3) a6 c69, .int .i64 c3] := by refine Eq.trans d3 ?_; show vs 6 = _; rw [a5] <;> rfl
   have d5 : vs 8 = .slice (sb a3) a6 c69 := by refine Eq.trans f5 ?_; show (tupAt (vs 7) 0) = _; rw [a9] <;> rfl
   have f4 : vs 10 = .slice (sb a3) a6 c69 := by refine Eq.trans f2 ?_; show vs 8 = _; rw [d5] <;> rfl
   refine Z0e (D := [(70, vs 0), (71, vs 1), (72, vs 2), (73, vs 3), (74, vs 4), (75, vs 5), (76, vs 6), (69, vs 7), (77, vs 8), (78, vs 9), (15, vs 10)]) rfl ?_; refine Z13 (H := [(b5, .cells (arr (intC .i64) e0 e1).toArray 2 (0, 0)), (some d8, .cells (arr (intC .i64) ((List.replicate (((r3.Arcs ++ ([(Arc.mk a2 r3.S 65536)])).length : Int).toNat) (0 : Int)).set (((List.replicate (((r3.Arcs ++ ([(Arc.mk a2 r3.S 65536)])).length : Int).toNat) (0 : Int)).length : Int) - 1).toNat (d2 + 1)) ([])).toArray 2 (0, 0)), (b0, .cells (arr (intC .i64) d1 d9).toArray 2 (0, 0)), (some b1, .cells #[.int .i64 r3.N, .int .i64 r3.S, .int .i64 r3.T, .slice (sb a4) (n6 + 1) c22] 24 (0, 0)), (a4, .cells (arr Z54 (r3.Arcs ++ ([(Arc.mk a2 r3.S 65536)])) c8).toArray 35 (0, 0)), (some d7, .cells (arr Z54 ([(Arc.mk a2 r3.S 65536)]) ([])).toArray 35 (0, 0)), (a3, .cells (arr (intC .i64) d4 a7).toArray 2 (0, 0))]) (by show _ ++ (_ ++ (es 0 ++ (es 1 ++ (es 2 ++ (es 3 ++ (es 4 ++ (es 5 ++ (es 6 ++ (es 7 ++ (es 8 ++ (es 9 ++ (es 10 ++ ([]))))))))))))) = _; rw [g7, g5, g3, g4, g6, g8, a8, c4, f0, h9, f3]; rfl) ?_; rw [e8, e6, e3, e5, e7, e9, a5, a9, d5, h8, f4]; clear f4 h8 d5 a9 a5 e9 e7 e5 e3 e6 e8 d3 f5 f2 g7 g5 g3 g4 g6 g8 a8 c4 f0 h9 f3; refine Z06 rfl rfl rfl rfl ?_; refine Z04 ?_; refine Z01 ?_; refine Z0l (Z00 (t := 8) rfl (Z00 (t := 9) rfl (Z00 (t := 10) rfl (Z00 (t := 12) rfl (Z00 (t := 14) rfl (Z00 (t := 16) rfl Z09)))))) ?_; refine Z0b ?_; refine Z03 (ll := [0, 1, 2, 3, 4, 5, 6, 7, 8, 9, 10, 11, 12, 13, 14, 15, 16, 17, 18, 19, 20, 21, 22, 23, 24]) rfl ?_; refine Z05 rfl rfl rfl rfl ?_; refine Z0p rfl rfl rfl rfl rfl rfl ?_; refine Z05 rfl rfl rfl rfl ?_; refine TO.join [3, 4, 5, 6, 7, 8] [9, 10, 11, 12, 13, 14, 15, 16, 17, 18, 19, 20, 21, 22, 23, 24] rfl 87 (fun i4 => Z28 g2 e2 c3 i4 = some r0) [(12, .int .i64 g2), (14, .int .i64 e2), (16, .int .i64 c3)] ?_ ?_
   ·
    rcases Z0i H with ⟨g9, H⟩ | ⟨g9, H⟩
    · refine Z0t (t := 81) (b' := true) rfl (decide_eq_true g9) ?_; refine Z05 rfl rfl rfl rfl ?_; refine Z1m (xs := d1) g1 rfl rfl rfl rfl rfl Z34 ?_; refine Z05 rfl rfl rfl rfl ?_; refine Z1m (xs := ((List.replicate (((r3.Arcs ++ ([(Arc.mk a2 r3.S 65536)])).length : Int).toNat) (0 : Int)).set (((List.replicate (((r3.Arcs ++ ([(Arc.mk a2 r3.S 65536)])).length : Int).toNat) (0 : Int)).length : Int) - 1).toNat (d2 + 1))) (List.length_set.trans List.length_replicate) rfl rfl rfl rfl rfl Z34 ?_; refine Z0p rfl rfl rfl rfl rfl rfl ?_; refine Z1k rfl rfl rfl rfl rfl ?_; refine Z04 ?_; exact X.jn (b := (decide ((d1.length : Int) = (((List.replicate (((r3.Arcs ++ ([(Arc.mk a2 r3.S 65536)])).length : Int).toNat) (0 : Int)).set (((List.replicate (((r3.Arcs ++ ([(Arc.mk a2 r3.S 65536)])).length : Int).toNat) (0 : Int)).length : Int) - 1).toNat (d2 + 1)).length : Int)))) H (Z00 rfl (Z00 rfl (Z00 rfl (Z00 rfl Z09))))
    · refine Z0t (t := 81) (b' := false) rfl (decide_eq_false g9) ?_; refine Z0j rfl rfl rfl rfl ?_; refine Z0j rfl rfl rfl rfl ?_; refine Z0j rfl rfl rfl rfl ?_; refine Z0j rfl rfl rfl rfl ?_; refine Z0j rfl rfl rfl rfl ?_; refine Z1n rfl rfl rfl rfl rfl ?_; refine Z04 ?_; exact X.jn (b := false) H (Z00 rfl (Z00 rfl (Z00 rfl (Z00 rfl Z09))))
   ·
    rintro i4 H; unfold Z28 at H; refine Z05 rfl rfl rfl rfl ?_; refine TO.join [10, 11, 12] [13, 14, 15, 16, 17, 18, 19, 20, 21, 22, 23, 24] rfl 91 (fun i5 => Z27 e2 c3 i5 = some r0) [(14, .int .i64 e2), (16, .int .i64 c3)] ?_ ?_
    ·
     rcases Z0i H with ⟨h0, H⟩ | ⟨h0, H⟩
     · refine Z0t (t := 88) (b' := true) rfl h0 ?_; refine Z05 rfl rfl rfl rfl ?_; refine Z0p rfl rfl rfl rfl rfl rfl ?_; refine Z1k rfl rfl rfl rfl rfl ?_; refine Z04 ?_; exact X.jn (b := (decide (g2 = 20))) H (Z00 rfl (Z00 rfl (Z00 rfl Z09)))
     · refine Z0t (t := 88) (b' := false) rfl (Bool.eq_false_iff.2 h0) ?_; refine Z0j rfl rfl rfl rfl ?_; refine Z0j rfl rfl rfl rfl ?_; refine Z1n rfl rfl rfl rfl rfl ?_; refine Z04 ?_; exact X.jn (b := false) H (Z00 rfl (Z00 rfl (Z00 rfl Z09)))
    ·
     rintro i5 H; unfold Z27 at H; refine Z05 rfl rfl rfl rfl ?_; refine TO.join [14, 15, 16] [17, 18, 19, 20, 21, 22, 23, 24] rfl 95 (fun i6 => Z26 c3 i6 = some r0) [(16, .int .i64 c3)] ?_ ?_
     ·
      rcases Z0i H with ⟨h1, H⟩ | ⟨h1, H⟩
      · refine Z0t (t := 92) (b' := true) rfl h1 ?_; refine Z05 rfl rfl rfl rfl ?_; refine Z0p rfl rfl rfl rfl rfl rfl ?_; refine Z1k rfl rfl rfl rfl rfl ?_; refine Z04 ?_; exact X.jn (b := (decide (e2 = 20))) H (Z00 rfl (Z00 rfl Z09))
      · refine Z0t (t := 92) (b' := false) rfl (Bool.eq_false_iff.2 h1) ?_; refine Z0j rfl rfl rfl rfl ?_; refine Z0j rfl rfl rfl rfl ?_; refine Z1n rfl rfl rfl rfl rfl ?_; refine Z04 ?_; exact X.jn (b := false) H (Z00 rfl (Z00 rfl Z09))
     ·
      rintro i6 H; unfold Z26 at H; refine Z05 rfl rfl rfl rfl ?_; refine TO.join [18, 19, 20] [21, 22, 23, 24] rfl 99 (fun i7 => Z25 i7 = some r0) [] ?_ ?_
      ·
       rcases Z0i H with ⟨h2, H⟩ | ⟨h2, H⟩
       · refine Z0t (t := 96) (b' := true) rfl h2 ?_; refine Z05 rfl rfl rfl rfl ?_; refine Z0p rfl rfl rfl rfl rfl rfl ?_; refine Z1k rfl rfl rfl rfl rfl ?_; refine Z04 ?_; exact X.jn (b := (decide (c3 = 20))) H (Z00 rfl Z09)
       · refine Z0t (t := 96) (b' := false) rfl (Bool.eq_false_iff.2 h2) ?_; refine Z0j rfl rfl rfl rfl ?_; refine Z0j rfl rfl rfl rfl ?_; refine Z1n rfl rfl rfl rfl rfl ?_; refine Z04 ?_; exact X.jn (b := false) H (Z00 rfl Z09)
      ·
       rintro i7 H; unfold Z25 at H; refine Z05 rfl rfl rfl rfl ?_; refine TO.join [22, 23] [24] rfl 102 (fun i8 => Z24 i8 = some r0) [] ?_ ?_
       ·
        rcases Z0i H with ⟨h3, H⟩ | ⟨h3, H⟩
        · obtain ⟨k9, l0, H⟩ := Z0k H; refine Z0t (t := 100) (b' := true) rfl h3 ?_; refine Z0n Zby rfl rfl rfl rfl (fun wc hwc => Za8  wc  l0) ?_; rintro _ _ ⟨rfl, rfl⟩; refine Z1k rfl rfl rfl rfl rfl ?_; refine Z04 ?_; exact X.jn (b := k9) H (Z00 rfl Z09)
        · refine Z0t (t := 100) (b' := false) rfl (Bool.eq_false_iff.2 h3) ?_; refine Z0j rfl rfl rfl rfl ?_; refine Z1n rfl rfl rfl rfl rfl ?_; refine Z04 ?_; exact X.jn (b := false) H (Z00 rfl Z09)
       · rintro i8 H; unfold Z24 at H; refine Z06 rfl rfl rfl rfl ?_; refine Z04 ?_; refine Z01 ?_; refine T.ret ?_; obtain rfl := ret1 H; exact Z0u rfl rfl rfl rfl (Res.tmp rfl) Z0a ⟨rfl, rfl⟩
end Go.Proofs.Ytfdhelnfgfaeaaa.Ax
namespace Go.Acq
open Go
def hit (a : Arc) (v : Nat) : Nat := if a.fr = a.to then 0 else if a.fr = v ∨ a.to = v then 1 else 0
def cnt (al : List Arc) (v : Nat) : Nat → Nat
  | 0 => 0
  | k + 1 => cnt al v k + hit (al.getD k default) v
def Z17 (al : List Arc) : Nat → Nat
  | 0 => 0
  | v + 1 => Z17 al v + cnt al v al.length
def vtx (a : Arc) (s : Bool) : Int := if s then a.to else a.fr
def pos (al : List Arc) (i : Nat) (s : Bool) : Nat := Z17 al (vtx (al.getD i default) s).toNat + cnt al (vtx (al.getD i default) s).toNat i
def Z5b (n : Nat) (al : List Arc) : Prop := ∀ i, i < al.length → ∀ s, 0 ≤ vtx (al.getD i default) s ∧ vtx (al.getD i default) s < n
theorem Zab {α : Type} (xs : List α) (i j : Nat) (v d : α) : (xs.set i v).getD j d = if i = j ∧ i < xs.length then v else xs.getD j d := by
 rw [List.getD_eq_getElem?_getD, List.getD_eq_getElem?_getD, List.getElem?_set]
 split
 ·
  rename_i h; subst h
  split
  · rename_i h2; simp [h2]
  · rename_i h2; simp [h2]
 · rename_i h; simp [h]
theorem Z3n {α : Type} {xs : List α} {i j : Nat} {v d : α} (h : i ≠ j) : (xs.set i v).getD j d = xs.getD j d := by
 rw [Zab, if_neg (fun e => h e.1)]
theorem Z5s {α : Type} {xs : List α} {i : Nat} {v d : α} (h : i < xs.length) : (xs.set i v).getD i d = v := by
 rw [Zab, if_pos ⟨rfl, h⟩]
theorem Z1x {α : Type} (n j : Nat) (v : α) : (List.replicate n v).getD j v = v := by
 rw [List.getD_eq_getElem?_getD, List.getElem?_replicate]; split <;> simp
theorem hit_le (a : Arc) (v : Nat) : hit a v ≤ 1 := by unfold hit; split; omega; split <;> omega
theorem cnt_mono {al : List Arc} {v i j : Nat} (h : i ≤ j) : cnt al v i ≤ cnt al v j := by
 induction h with
 | refl => exact Nat.le_refl _
 | step _ ih => exact Nat.le_trans ih (Nat.le_add_right _ _)
theorem Z67 {al : List Arc} {u v : Nat} (h : u ≤ v) : Z17 al u ≤ Z17 al v := by
 induction h with
 | refl => exact Nat.le_refl _
 | step _ ih => exact Nat.le_trans ih (Nat.le_add_right _ _)
theorem hit_vtx {a : Arc} {s : Bool} (h : a.fr ≠ a.to) (h0 : 0 ≤ vtx a s) : hit a (vtx a s).toNat = 1 := by
 unfold hit; rw [if_neg h, if_pos]
 cases s
 · left; simp only [vtx] at h0 ⊢; simp only [Bool.false_eq_true, if_false] at h0 ⊢; omega
 · right; simp only [vtx] at h0 ⊢; simp only [if_true] at h0 ⊢; omega
theorem Zcl {al : List Arc} {i j : Nat} {s : Bool} (hij : i < j) (h : (al.getD i default).fr ≠ (al.getD i default).to) (h0 : 0 ≤ vtx (al.getD i default) s) :
    cnt al (vtx (al.getD i default) s).toNat i < cnt al (vtx (al.getD i default) s).toNat j := by
  have h1 := cnt_mono (al := al) (v := (vtx (al.getD i default) s).toNat) (i := i + 1) (j := j) hij
  have h2 := hit_vtx h h0
  simp only [cnt] at h1
  omega
theorem Zgt {al : List Arc} {n i : Nat} {s : Bool} (hi : i < al.length) (h : (al.getD i default).fr ≠ (al.getD i default).to) (he : Z5b n al) : pos al i s < Z17 al n := by
 have h1 := Zcl (s := s) hi h (he i hi s).1
 have h2 := Z67 (al := al) (u := (vtx (al.getD i default) s).toNat + 1) (v := n) (by have := he i hi s; omega)
 simp only [Z17] at h2
 unfold pos; omega
theorem Zae {al : List Arc} {n i j : Nat} {s t : Bool} (he : Z5b n al) (hi : i < al.length) (hj : j < al.length) (h : (al.getD i default).fr ≠ (al.getD i default).to) (g : (al.getD j default).fr ≠ (al.getD j default).to)
    (e : pos al i s = pos al j t) : i = j ∧ s = t := by
  have hi1 := Zcl (s := s) hi h (he i hi s).1
  have hj1 := Zcl (s := t) hj g (he j hj t).1
  have hv : (vtx (al.getD i default) s).toNat = (vtx (al.getD j default) t).toNat := by
    rcases Nat.lt_trichotomy (vtx (al.getD i default) s).toNat (vtx (al.getD j default) t).toNat with h1 | h1 | h1
    · have := Z67 (al := al) (u := (vtx (al.getD i default) s).toNat + 1) h1
      simp only [Z17] at this
      unfold pos at e; omega
    · exact h1
    · have := Z67 (al := al) (u := (vtx (al.getD j default) t).toNat + 1) h1
      simp only [Z17] at this
      unfold pos at e; omega
  have hij : i = j := by
    rcases Nat.lt_trichotomy i j with h1 | h1 | h1
    · have h2 := Zcl (s := s) h1 h (he i hi s).1
      unfold pos at e; rw [hv] at e h2; omega
    · exact h1
    · have h2 := Zcl (s := t) h1 g (he j hj t).1
      unfold pos at e; rw [hv] at e; omega
  refine ⟨hij, ?_⟩
  subst hij
  have h1 := (he i hi s).1
  have h2 := (he i hi t).1
  cases s <;> cases t <;> first | rfl | (simp only [vtx, Bool.false_eq_true, if_false, if_true] at hv h1 h2; omega)
theorem Zh3 {al : List Arc} {v r : Nat} : ∀ {k : Nat}, r < cnt al v k → ∃ i, i < k ∧ cnt al v i = r ∧ hit (al.getD i default) v = 1
 | 0, h => by simp [cnt] at h
 | k + 1, h => by
  by_cases h1 : r < cnt al v k
  · obtain ⟨i, h2, h3⟩ := Zh3 h1; exact ⟨i, by omega, h3⟩
  ·
   have := hit_le (al.getD k default) v
   simp only [cnt] at h
   exact ⟨k, by omega, by omega, by omega⟩
theorem Zcm {al : List Arc} {p : Nat} : ∀ {n : Nat}, p < Z17 al n → ∃ v, v < n ∧ Z17 al v ≤ p ∧ p < Z17 al (v + 1)
 | 0, h => by simp [Z17] at h
 | n + 1, h => by
  by_cases h1 : p < Z17 al n
  · obtain ⟨v, h2, h3⟩ := Zcm h1; exact ⟨v, by omega, h3⟩
  · exact ⟨n, by omega, by omega, h⟩
theorem pos_surj {al : List Arc} {n p : Nat} (h : p < Z17 al n) : ∃ i s, i < al.length ∧ (al.getD i default).fr ≠ (al.getD i default).to ∧ pos al i s = p ∧ 0 ≤ vtx (al.getD i default) s ∧ vtx (al.getD i default) s < n ∧
    Z17 al (vtx (al.getD i default) s).toNat ≤ p ∧ p < Z17 al ((vtx (al.getD i default) s).toNat + 1) := by
  obtain ⟨v, hv, h1, h2⟩ := Zcm h
  simp only [Z17] at h2
  obtain ⟨i, hi, h3, h4⟩ := Zh3 (al := al) (v := v) (r := p - Z17 al v) (k := al.length) (by omega)
  unfold hit at h4
  split at h4
  · omega
  · rename_i hne
    split at h4
    · rename_i ho
      rcases ho with ho | ho
      · refine ⟨i, false, hi, hne, ?_, ?_, ?_, ?_, ?_⟩ <;> simp only [pos, vtx, Bool.false_eq_true, if_false, ho, Int.toNat_natCast, Z17] <;> omega
      · refine ⟨i, true, hi, hne, ?_, ?_, ?_, ?_, ?_⟩ <;> simp only [pos, vtx, if_true, ho, Int.toNat_natCast, Z17] <;> omega
    · omega
def CsrAt (al : List Arc) (hs rs cs aa : List Int) (bs : List Bool) (k : Nat) : Prop :=
  ∀ i, i < k → (al.getD i default).fr ≠ (al.getD i default).to → ∀ s,
    hs.getD (pos al i s) 0 = vtx (al.getD i default) (!s) ∧ rs.getD (pos al i s) 0 = pos al i (!s) ∧ cs.getD (pos al i s) 0 = (if s then 0 else (al.getD i default).cap) ∧
    aa.getD (pos al i s) 0 = i ∧ bs.getD (pos al i s) false = s
structure CsrOK (al : List Arc) (n : Nat) (fs hs rs cs aa : List Int) (bs : List Bool) : Prop where
  lf : fs.length = n + 1
  lh : hs.length = Z17 al n
  lr : rs.length = Z17 al n
  lc : cs.length = Z17 al n
  la : aa.length = Z17 al n
  lb : bs.length = Z17 al n
  hf : ∀ v, v ≤ n → fs.getD v 0 = Z17 al v
  hat : CsrAt al hs rs cs aa bs al.length
theorem CsrAt.skip {al : List Arc} {hs rs cs aa : List Int} {bs : List Bool} {k : Nat} (h : CsrAt al hs rs cs aa bs k) (e : (al.getD k default).fr = (al.getD k default).to) : CsrAt al hs rs cs aa bs (k + 1) := by
 intro i hi hne s
 rcases Nat.lt_succ_iff_lt_or_eq.1 hi with h1 | h1
 · exact h i h1 hne s
 · subst h1; exact absurd e hne
theorem set2 {α : Type} {xs : List α} {p q j : Nat} {u v d : α} (hp : p < xs.length) (hq : q < xs.length) (hpq : p ≠ q) :
    ((xs.set p u).set q v).getD j d = if j = p then u else if j = q then v else xs.getD j d := by
  rw [Zab, Zab]
  by_cases h1 : j = p
  · subst h1; rw [if_pos rfl, if_neg (fun e => hpq e.1.symm), if_pos ⟨rfl, hp⟩]
  · rw [if_neg h1]
    by_cases h2 : j = q
    · subst h2; rw [if_pos rfl, if_pos ⟨rfl, by simpa using hq⟩]
    · rw [if_neg h2, if_neg (fun e => h2 e.1.symm), if_neg (fun e => h1 e.1.symm)]
theorem CsrAt.put {al : List Arc} {n : Nat} {hs rs cs aa : List Int} {bs : List Bool} {k : Nat} (h : CsrAt al hs rs cs aa bs k) (he : Z5b n al) (hk : k < al.length) (hne : (al.getD k default).fr ≠ (al.getD k default).to)
    (lh : hs.length = Z17 al n) (lr : rs.length = Z17 al n) (lc : cs.length = Z17 al n) (la : aa.length = Z17 al n) (lb : bs.length = Z17 al n) :
    CsrAt al ((hs.set (pos al k false) (al.getD k default).to).set (pos al k true) (al.getD k default).fr) ((rs.set (pos al k false) (pos al k true)).set (pos al k true) (pos al k false))
      ((cs.set (pos al k false) (al.getD k default).cap).set (pos al k true) 0) ((aa.set (pos al k false) k).set (pos al k true) k) ((bs.set (pos al k false) false).set (pos al k true) true) (k + 1) := by
  have hp : pos al k false < Z17 al n := Zgt hk hne he
  have hq : pos al k true < Z17 al n := Zgt hk hne he
  have hpq : pos al k false ≠ pos al k true := fun e => by have := (Zae he hk hk hne hne e).2; cases this
  intro i hi hni s
  have hil : i < al.length := by omega
  rw [set2 (by omega) (by omega) hpq, set2 (by omega) (by omega) hpq, set2 (by omega) (by omega) hpq, set2 (by omega) (by omega) hpq, set2 (by omega) (by omega) hpq]
  by_cases hik : i = k
  · subst hik
    cases s
    · simp [vtx]
    · simp [vtx, hpq.symm]
  · have h1 : pos al i s ≠ pos al k false := fun e => hik (Zae he hil hk hni hne e).1
    have h2 : pos al i s ≠ pos al k true := fun e => hik (Zae he hil hk hni hne e).1
    simp only [if_neg h1, if_neg h2]
    exact h i (by omega) hni s
def Counted (al : List Arc) (m k : Nat) (fs : List Int) : Prop := fs.length = m + 1 ∧ fs.getD 0 0 = 0 ∧ ∀ v : Int, 0 ≤ v → v < m → fs.getD (v + 1).toNat 0 = cnt al v.toNat k
def Summed (al : List Arc) (m k : Nat) (fs : List Int) : Prop := fs.length = m + 1 ∧ (∀ u, u ≤ k → fs.getD u 0 = Z17 al u) ∧ ∀ u, k ≤ u → u < m → fs.getD (u + 1) 0 = cnt al u al.length
theorem Counted.start (al : List Arc) (m : Nat) {p : Nat} (h : p = m + 1) : Counted al m 0 (List.replicate p 0) :=
 ⟨by simp [h], Z1x _ _ _, fun v _ _ => by rw [Z1x]; rfl⟩
theorem Counted.skip {al : List Arc} {m k : Nat} {fs : List Int} (h : Counted al m k fs) (e : (al.getD k default).fr = (al.getD k default).to) : Counted al m (k + 1) fs :=
 ⟨h.1, h.2.1, fun v h0 h1 => by rw [h.2.2 v h0 h1]; simp only [cnt, hit, if_pos e, Nat.add_zero]⟩
theorem Counted.put {al : List Arc} {m k : Nat} {fs : List Int} (h : Counted al m k fs) (he : Z5b m al) (hk : k < al.length) (hne : (al.getD k default).fr ≠ (al.getD k default).to) :
    Counted al m (k + 1) ((fs.set ((al.getD k default).fr + 1).toNat (fs.getD ((al.getD k default).fr + 1).toNat 0 + 1)).set ((al.getD k default).to + 1).toNat
      ((fs.set ((al.getD k default).fr + 1).toNat (fs.getD ((al.getD k default).fr + 1).toNat 0 + 1)).getD ((al.getD k default).to + 1).toNat 0 + 1)) := by
  have e0 := he k hk false
  have e1 := he k hk true
  simp only [vtx, Bool.false_eq_true, if_false, if_true] at e0 e1
  obtain ⟨hl, hz, hv⟩ := h
  refine ⟨by simpa using hl, ?_, ?_⟩
  · rw [Z3n (by omega), Z3n (by omega)]; exact hz
  · intro v h0 h1
    have hvv := hv v h0 h1
    rw [Z3n (i := ((al.getD k default).fr + 1).toNat) (j := ((al.getD k default).to + 1).toNat) (by omega), set2 (by omega) (by omega) (by omega)]
    simp only [cnt, hit, if_neg hne]
    by_cases a1 : v = (al.getD k default).fr
    · rw [if_pos (by omega), if_pos (by omega), ← a1, hvv]; omega
    · rw [if_neg (by omega)]
      by_cases a2 : v = (al.getD k default).to
      · rw [if_pos (by omega), if_pos (by omega), ← a2, hvv]; omega
      · rw [if_neg (by omega), if_neg (by omega), hvv]; omega
theorem Summed.put {al : List Arc} {m k : Nat} {fs : List Int} (h : Summed al m k fs) (hk : k < m) {i : Nat} (hi : i = k + 1) : Summed al m (k + 1) (fs.set i (fs.getD i 0 + fs.getD k 0)) := by
 subst hi
 obtain ⟨hl, h1, h2⟩ := h
 refine ⟨by simpa using hl, fun u hu => ?_, fun u h3 h4 => ?_⟩
 ·
  by_cases e : u = k + 1
  · subst e; rw [Z5s (by omega), h1 k (Nat.le_refl _), h2 k (Nat.le_refl _) hk]; simp [Z17]; omega
  · rw [Z3n (by omega)]; exact h1 u (by omega)
 · rw [Z3n (by omega)]; exact h2 u (by omega) h4
theorem Z2s {N S T : Int} {al : List Arc} (h : Z74 N S T al = 0) : (2 ≤ N ∧ N ≤ 4096) ∧ (al.length : Int) ≤ 16384 ∧ (Z39 N S = true ∧ Z39 N T = true ∧ S ≠ T) ∧ al.all (Za9 N) = true ∧ al.all Zh4 = true ∧ (Zca 4611686018427387904 al).isSome = true := by
 unfold Z74 at h
 split at h
 · omega
 ·
  rename_i h1
  split at h
  · omega
  ·
   rename_i h2
   split at h
   · omega
   ·
    rename_i h3
    split at h
    · omega
    ·
     rename_i h4
     split at h
     · omega
     ·
      rename_i h5
      split at h
      · omega
      ·
       rename_i h6
       refine ⟨Classical.not_not.1 h1, Classical.not_not.1 h2, Classical.not_not.1 h3, by simpa using h4, by simpa using h5, ?_⟩
       cases e : Zca 4611686018427387904 al <;> simp_all
theorem Zcj {m : Nat} {al : List Arc} (h : al.all (Za9 (m : Int)) = true) : Z5b m al := by
 intro i hi s
 have h1 := List.all_eq_true.1 h _ (Z65 hi default)
 simp only [Za9, Z39, Bool.and_eq_true, decide_eq_true_eq] at h1
 cases s
 · simp only [vtx, Bool.false_eq_true, if_false]; exact h1.1
 · simp only [vtx, if_true]; exact h1.2
def MakeAt (al : List Arc) (m k : Nat) (nx hs rs cs aa : List Int) (bs : List Bool) : Prop :=
  (nx.length = m + 1 ∧ hs.length = Z17 al m ∧ rs.length = Z17 al m ∧ cs.length = Z17 al m ∧ aa.length = Z17 al m ∧ bs.length = Z17 al m) ∧
  CsrAt al hs rs cs aa bs k ∧ ∀ v : Int, 0 ≤ v → v < m → nx.getD v.toNat 0 = Z17 al v.toNat + cnt al v.toNat k
theorem MakeAt.start {al : List Arc} {m : Nat} {fs : List Int} (hl : fs.length = m + 1) (hf : ∀ u, u ≤ m → fs.getD u 0 = Z17 al u) :
    MakeAt al m 0 fs (List.replicate (Z17 al m) 0) (List.replicate (Z17 al m) 0) (List.replicate (Z17 al m) 0) (List.replicate (Z17 al m) 0) (List.replicate (Z17 al m) false) := by
  refine ⟨⟨hl, by simp, by simp, by simp, by simp, by simp⟩, fun i hi => by omega, fun v h0 h1 => ?_⟩
  rw [hf _ (by omega)]; simp [cnt]
theorem MakeAt.skip {al : List Arc} {m k : Nat} {nx hs rs cs aa : List Int} {bs : List Bool} (h : MakeAt al m k nx hs rs cs aa bs) (e : (al.getD k default).fr = (al.getD k default).to) : MakeAt al m (k + 1) nx hs rs cs aa bs :=
 ⟨h.1, h.2.1.skip e, fun v h0 h1 => by rw [h.2.2 v h0 h1]; simp only [cnt, hit, if_pos e, Nat.add_zero]⟩
theorem MakeAt.at {al : List Arc} {m k : Nat} {nx hs rs cs aa : List Int} {bs : List Bool} (h : MakeAt al m k nx hs rs cs aa bs) (he : Z5b m al) (hk : k < al.length) (s : Bool) : nx.getD (vtx (al.getD k default) s).toNat 0 = (pos al k s : Nat) := by
 rw [h.2.2 _ (he k hk s).1 (he k hk s).2]; simp only [pos]; omega
theorem MakeAt.put {al : List Arc} {m k : Nat} {nx hs rs cs aa : List Int} {bs : List Bool} (h : MakeAt al m k nx hs rs cs aa bs) (he : Z5b m al) (hk : k < al.length) (hne : (al.getD k default).fr ≠ (al.getD k default).to) :
    MakeAt al m (k + 1) ((nx.set (al.getD k default).fr.toNat ((pos al k false : Nat) + 1)).set (al.getD k default).to.toNat ((pos al k true : Nat) + 1))
      ((hs.set (pos al k false) (al.getD k default).to).set (pos al k true) (al.getD k default).fr) ((rs.set (pos al k false) (pos al k true)).set (pos al k true) (pos al k false))
      ((cs.set (pos al k false) (al.getD k default).cap).set (pos al k true) 0) ((aa.set (pos al k false) k).set (pos al k true) k) ((bs.set (pos al k false) false).set (pos al k true) true) := by
  have g0 := h.at he hk false
  have g1 := h.at he hk true
  obtain ⟨⟨l0, l1, l2, l3, l4, l5⟩, hA, hv⟩ := h
  have e0 := he k hk false
  have e1 := he k hk true
  simp only [vtx, Bool.false_eq_true, if_false, if_true] at e0 e1 g0 g1
  refine ⟨⟨by simpa using l0, by simpa using l1, by simpa using l2, by simpa using l3, by simpa using l4, by simpa using l5⟩, hA.put he hk hne l1 l2 l3 l4 l5, fun v h0 h1 => ?_⟩
  have hvv := hv v h0 h1
  rw [set2 (by omega) (by omega) (by omega)]
  simp only [cnt, hit, if_neg hne]
  by_cases a1 : v = (al.getD k default).fr
  · rw [if_pos (by omega), if_pos (by omega), ← g0, ← a1, hvv]; omega
  · rw [if_neg (by omega)]
    by_cases a2 : v = (al.getD k default).to
    · rw [if_pos (by omega), if_pos (by omega), ← g1, ← a2, hvv]; omega
    · rw [if_neg (by omega), if_neg (by omega), hvv]; omega
theorem MakeAt.done {al : List Arc} {m : Nat} {fs nx hs rs cs aa : List Int} {bs : List Bool} (h : MakeAt al m al.length nx hs rs cs aa bs) (hl : fs.length = m + 1) (hf : ∀ u, u ≤ m → fs.getD u 0 = Z17 al u) : CsrOK al m fs hs rs cs aa bs :=
 ⟨hl, h.1.2.1, h.1.2.2.1, h.1.2.2.2.1, h.1.2.2.2.2.1, h.1.2.2.2.2.2, hf, h.2.1⟩
end Go.Acq
namespace Go.Acq
open Go
theorem next_ne {S m : Int} (h0 : 0 ≤ S) (h1 : S < m) (h2 : 2 ≤ m) : 0 ≤ (S + 1).tmod m ∧ (S + 1).tmod m < m ∧ (S + 1).tmod m ≠ S := by
 rw [Int.tmod_eq_emod_of_nonneg (by omega)]
 refine ⟨Int.emod_nonneg _ (by omega), Int.emod_lt_of_pos _ (by omega), ?_⟩
 by_cases h : S + 1 < m
 · rw [Int.emod_eq_of_lt (by omega) h]; omega
 · rw [show S + 1 = m by omega, Int.emod_self]; omega
theorem Zhk {x n : Int} (h : 0 ≤ x) (hn : 0 < n) : 0 ≤ x.tmod n ∧ x.tmod n < n := by
 rw [Int.tmod_eq_emod_of_nonneg h]
 exact ⟨Int.emod_nonneg _ (by omega), Int.emod_lt_of_pos _ hn⟩
def SomeAt (m : Nat) (ol : List Arc) : Prop := ∀ a, a ∈ ol → Za9 m a = true ∧ 0 ≤ a.cap ∧ a.cap < 1125899906842624
theorem SomeAt.put {m : Nat} {ol : List Arc} {a : Arc} (h : SomeAt m ol) (h1 : 0 ≤ a.fr ∧ a.fr < m) (h2 : 0 ≤ a.to ∧ a.to < m) (h3 : 0 ≤ a.cap ∧ a.cap < 1125899906842624) : SomeAt m (ol ++ [a]) := by
 intro b hb
 rcases List.mem_append.1 hb with hb | hb
 · exact h b hb
 ·
  simp only [List.mem_singleton] at hb
  subst hb
  exact ⟨by simp [Za9, Z39, h1, h2], h3⟩
theorem Zj0 {m : Nat} {ol : List Arc} {left : Int} (h : SomeAt m ol) (hl : (ol.length : Int) * 1125899906842624 ≤ left) : (Zca left ol).isSome = true := by
 induction ol generalizing left with
 | nil => simp [Zca]
 | cons a ol ih =>
  have ha := (h a (.head _)).2
  simp only [List.length_cons] at hl
  have h2 : (0 : Int) ≤ (ol.length : Int) * 1125899906842624 := by omega
  simp only [Zca]
  rw [if_neg (by omega)]
  exact ih (fun b hb => h b (.tail _ hb)) (by omega)
theorem Zhm {m : Nat} {S T : Int} {ol : List Arc} (hm : 2 ≤ m) (hm2 : m ≤ 4096) (hS : 0 ≤ S ∧ S < m) (hT : 0 ≤ T ∧ T < m) (hST : T ≠ S) (h : SomeAt m ol) (hl : ol.length ≤ 4096) : Z74 m S T ol = 0 := by
 have h1 : ol.all (Za9 m) = true := List.all_eq_true.2 fun a ha => (h a ha).1
 have h2 : ol.all Zh4 = true := List.all_eq_true.2 fun a ha => by simp [Zh4, (h a ha).2.1]
 have h3 : (Zca 4611686018427387904 ol).isSome = true := Zj0 h (by omega)
 unfold Z74
 rw [if_neg (by omega), if_neg (by omega), if_neg (by simp [Z39, hS, hT, Ne.symm hST]), if_neg (by simp [h1]), if_neg (by simp [h2]), if_neg (by
  cases e : Zca 4611686018427387904 ol with
  | none => rw [e] at h3; cases h3
  | some x => simp)]
def WithinAt (al : List Arc) (n k : Nat) (fl : List Int) : Prop := fl.length = n ∧
  (∀ i, i < k → 0 ≤ fl.getD i 0 ∧ fl.getD i 0 ≤ (al.getD i default).cap ∧ ((al.getD i default).fr = (al.getD i default).to → fl.getD i 0 = 0)) ∧ ∀ i, k ≤ i → fl.getD i 0 = 0
theorem WithinAt.start (al : List Arc) (n : Nat) : WithinAt al n 0 (List.replicate n 0) := ⟨by simp, fun i h => by omega, fun i _ => Z1x _ _ _⟩
theorem WithinAt.skip {al : List Arc} {n k : Nat} {fl : List Int} (h : WithinAt al n k fl) (hc : 0 ≤ (al.getD k default).cap) : WithinAt al n (k + 1) fl := by
 refine ⟨h.1, fun i hi => ?_, fun i hi => h.2.2 i (by omega)⟩
 rcases Nat.lt_succ_iff_lt_or_eq.1 hi with h1 | h1
 · exact h.2.1 i h1
 · subst h1; have := h.2.2 i (Nat.le_refl _); rw [this]; exact ⟨Int.le_refl _, hc, fun _ => rfl⟩
theorem WithinAt.put {al : List Arc} {n k : Nat} {fl : List Int} {v : Int} (h : WithinAt al n k fl) (hk : k < n) (h0 : 0 ≤ v) (h1 : v ≤ (al.getD k default).cap) (hne : (al.getD k default).fr ≠ (al.getD k default).to) : WithinAt al n (k + 1) (fl.set k v) := by
 refine ⟨by simpa using h.1, fun i hi => ?_, fun i hi => by rw [Z3n (by omega)]; exact h.2.2 i (by omega)⟩
 by_cases e : i = k
 · subst e; rw [Z5s (by rw [h.1]; exact hk)]; exact ⟨h0, h1, fun e => absurd e hne⟩
 · rw [Z3n (by omega)]; exact h.2.1 i (by omega)
def resOK (aa cs : List Int) (bs : List Bool) (fl : List Int) (j : Nat) : Prop := aa.getD j 0 < fl.length ∧ (bs.getD j false = true ∨ (0 ≤ fl.getD (aa.getD j 0).toNat 0 ∧ fl.getD (aa.getD j 0).toNat 0 ≤ cs.getD j 0))
def resV (aa cs : List Int) (bs : List Bool) (fl : List Int) (j : Nat) : Int := if bs.getD j false = true then fl.getD (aa.getD j 0).toNat 0 else cs.getD j 0 - fl.getD (aa.getD j 0).toNat 0
def ResAt (aa cs : List Int) (bs : List Bool) (fl : List Int) (L k : Nat) (rl : List Int) : Prop := rl.length = L ∧ ∀ j, j < k → resOK aa cs bs fl j ∧ rl.getD j 0 = resV aa cs bs fl j
theorem ResAt.put {aa cs : List Int} {bs : List Bool} {fl : List Int} {L k : Nat} {rl : List Int} {v : Int} (h : ResAt aa cs bs fl L k rl) (hk : k < L) (h1 : resOK aa cs bs fl k) (h2 : v = resV aa cs bs fl k) : ResAt aa cs bs fl L (k + 1) (rl.set k v) := by
 refine ⟨by simpa using h.1, fun j hj => ?_⟩
 by_cases e : j = k
 · subst e; rw [Z5s (by rw [h.1]; exact hk)]; exact ⟨h1, h2⟩
 · rw [Z3n (by omega)]; exact h.2 j (by omega)
end Go.Acq
namespace Go.Acq
open Go
theorem CsrOK.place {al : List Arc} {m : Nat} {fs hs rs cs aa : List Int} {bs : List Bool} (h : CsrOK al m fs hs rs cs aa bs) {j : Nat} (hj : j < Z17 al m) :
    ∃ i s, i < al.length ∧ (al.getD i default).fr ≠ (al.getD i default).to ∧ pos al i s = j ∧ hs.getD j 0 = vtx (al.getD i default) (!s) ∧ rs.getD j 0 = pos al i (!s) ∧ cs.getD j 0 = (if s then 0 else (al.getD i default).cap) ∧ aa.getD j 0 = i ∧ bs.getD j false = s := by
  obtain ⟨i, s, hi, hne, hp, _⟩ := pos_surj hj
  have := h.hat i hi hne s
  rw [hp] at this
  exact ⟨i, s, hi, hne, hp, this⟩
end Go.Acq
namespace Go.Acq
open Go
theorem Zge {α : Type} {m : Option α} {v : α} (h : Ok m (fun a => a = v)) : m = some v := by obtain ⟨a, h1, h2⟩ := h; rw [h1, h2]
theorem Zbf {α : Type} {m : Option α} {v : α} {Q : α → Prop} (h : m = some v) (q : Q v) : Ok m Q := ⟨v, h, q⟩
abbrev lenok (n : Nat) : Prop := n ≤ 9223372036854775807
theorem Zcc {x n : Int} (h1 : n ≤ 4611686018427387904) : Z1r x n = some (Zcn x n) := by
 unfold Z1r Zcn
 by_cases h : n < 1
 · rw [if_pos h, if_pos h]
 ·
  have a1 := Int.tmod_lt_of_pos x (show 0 < n by omega)
  have a2 := Zcf x (show 0 < n by omega)
  rw [if_neg h, if_neg h, Zgy (by omega), Zgy (by constructor <;> omega), Zgy (by omega)]
theorem Zc2 (n : Net) (v : Int) : Z4j n v = some (Z39 n.N v) := by
 unfold Z4j Z39
 by_cases h : 0 ≤ v <;> simp [h]
theorem s_rules4 (n : Net) (a : Arc) : Z6k n a = some (Za9 n.N a) := by
 unfold Z6k Za9
 rw [Zc2, Zc2]
 simp only [Option.bind_some]
 cases Z39 n.N a.fr <;> simp
theorem s_of4 (n : Net) (h : lenok n.Arcs.length) : Z3v n = some (n.Arcs.all (Za9 n.N)) := by
 refine Zge ?_
 unfold Z3v Z19 Z1e
 refine Ok.bind.2 (Ok.bind.2 (Ok.bind.2 (Zf8 (fun x => 0 ≤ x ∧ x ≤ n.Arcs.length ∧ ∀ i, i < x.toNat → Za9 n.N (n.Arcs.getD i default) = true) (fun x => (n.Arcs.length - x).toNat) ⟨by omega, by omega, fun i hi => by omega⟩ (by unfold Z40; omega) ?_)))
 rintro x ⟨h0, h1, h2⟩
 unfold Z10 Z45
 refine Ok.ite.2 ⟨fun hx => ?_, fun hx => ?_⟩
 ·
  refine Ok.gd.2 ⟨(by omega), Ok.bind.2 (Ok.bind.2 (Zbf (s_rules4 _ _) (Ok.some.2 (Ok.ite.2 ⟨fun hb => ?_, fun hb => ?_⟩))))⟩
  ·
   refine Ok.some.2 (Ok.some.2 (Ok.some.2 (Ok.some.2 ?_)))
   simp only [h0, decide_true, Bool.not_true]
   refine Eq.symm (Bool.eq_false_iff.2 fun hall => ?_)
   have := List.all_eq_true.1 hall _ (Z65 (show x.toNat < n.Arcs.length by omega) default)
   rw [this] at hb; cases hb
  ·
   refine Ok.gd.2 ⟨(by omega), Ok.some.2 ⟨⟨by omega, by omega, fun i hi => ?_⟩, by omega⟩⟩
   rcases Nat.lt_or_ge i x.toNat with h3 | h3
   · exact h2 i h3
   · rw [show i = x.toNat by omega]; simpa using hb
 ·
  refine Ok.some.2 (Ok.some.2 (Ok.some.2 (Ok.some.2 ?_)))
  refine Eq.symm (List.all_eq_true.2 fun a ha => ?_)
  obtain ⟨i, hi, rfl⟩ := List.getElem_of_mem ha
  have := h2 i (by omega)
  rwa [List.getD_eq_getElem?_getD, List.getElem?_eq_getElem hi] at this
theorem s_of5 (n : Net) (h : lenok n.Arcs.length) : Z3u n = some (n.Arcs.all Zh4) := by
 refine Zge ?_
 unfold Z3u Z18 Z1d
 refine Ok.bind.2 (Ok.bind.2 (Ok.bind.2 (Zf8 (fun x => 0 ≤ x ∧ x ≤ n.Arcs.length ∧ ∀ i, i < x.toNat → Zh4 (n.Arcs.getD i default) = true) (fun x => (n.Arcs.length - x).toNat) ⟨by omega, by omega, fun i hi => by omega⟩ (by unfold Z40; omega) ?_)))
 rintro x ⟨h0, h1, h2⟩
 unfold Z0z Z44 Z7d
 refine Ok.ite.2 ⟨fun hx => ?_, fun hx => ?_⟩
 ·
  refine Ok.gd.2 ⟨(by omega), Ok.bind.2 (Ok.bind.2 (Ok.some.2 (Ok.some.2 (Ok.ite.2 ⟨fun hb => ?_, fun hb => ?_⟩))))⟩
  ·
   refine Ok.some.2 (Ok.some.2 (Ok.some.2 (Ok.some.2 ?_)))
   simp only [h0, decide_true, Bool.not_true]
   refine Eq.symm (Bool.eq_false_iff.2 fun hall => ?_)
   have := List.all_eq_true.1 hall _ (Z65 (show x.toNat < n.Arcs.length by omega) default)
   simp only [Zh4] at this
   rw [this] at hb; cases hb
  ·
   refine Ok.gd.2 ⟨(by omega), Ok.some.2 ⟨⟨by omega, by omega, fun i hi => ?_⟩, by omega⟩⟩
   rcases Nat.lt_or_ge i x.toNat with h3 | h3
   · exact h2 i h3
   · rw [show i = x.toNat by omega]; simpa [Zh4] using hb
 ·
  refine Ok.some.2 (Ok.some.2 (Ok.some.2 (Ok.some.2 ?_)))
  refine Eq.symm (List.all_eq_true.2 fun a ha => ?_)
  obtain ⟨i, hi, rfl⟩ := List.getElem_of_mem ha
  have := h2 i (by omega)
  rwa [List.getD_eq_getElem?_getD, List.getElem?_eq_getElem hi] at this
theorem s_Sum (n : Net) (h : lenok n.Arcs.length) : Z9j n = some (match Zca 4611686018427387904 n.Arcs with | some l => (4611686018427387904 - l, true) | none => (0, false)) := by
 refine Zge ?_
 unfold Z9j
 refine Ok.bind.2 (Zf8 (fun s => 0 ≤ s.2 ∧ s.2 ≤ n.Arcs.length ∧ 0 ≤ s.1 ∧ s.1 ≤ 4611686018427387904 ∧ Zca 4611686018427387904 n.Arcs = Zca s.1 (n.Arcs.drop s.2.toNat)) (fun s => (n.Arcs.length - s.2).toNat) ⟨by simp, by simp, by simp, by simp, by simp⟩ (by unfold Z40; simp; omega) ?_)
 rintro ⟨left, x⟩ ⟨h0, h1, h2, h3, h4⟩
 simp only at h0 h1 h2 h3 h4 ⊢
 unfold Z71 Z72
 refine Ok.ite.2 ⟨fun hx => ?_, fun hx => ?_⟩
 ·
  rw [Zf9 (by omega)] at h4
  refine Ok.gd.2 ⟨(by omega), Ok.ite.2 ⟨fun hb => ?_, fun hb => ?_⟩⟩
  ·
   rw [if_pos rfl]
   refine Ok.some.2 (Ok.some.2 ?_)
   rw [h4, if_pos (.inl hb)]
  ·
   by_cases hc : left < (n.Arcs.getD x.toNat default).cap
   ·
    rw [if_pos (decide_eq_true hc)]
    refine Ok.some.2 (Ok.some.2 ?_)
    rw [h4, if_pos (.inr hc)]
   ·
    rw [if_neg (by simpa using hc)]
    refine Ok.gd.2 ⟨(by omega), Ok.gd.2 ⟨(by omega), Ok.some.2 ⟨⟨by simp only; omega, by simp only; omega, by simp only; omega, by simp only; omega, ?_⟩, by simp only; omega⟩⟩⟩
    rw [h4, if_neg (by omega)]
    simp only
    rw [show (x + 1).toNat = x.toNat + 1 by omega]
 ·
  unfold Z88
  refine Ok.some.2 (Ok.gd.2 ⟨(by omega), Ok.some.2 ?_⟩)
  rw [h4, List.drop_eq_nil_of_le (by omega)]
  rfl
theorem s_Check (n : Net) (h : lenok n.Arcs.length) : Z7u n = some (Z74 n.N n.S n.T n.Arcs) := by
 unfold Z7u Z8z Z61 Z60 Z7g Z7f Z7e Z7c Z6w
 rw [Zc2, Zc2, s_of4 n h, s_of5 n h, s_Sum n h]
 unfold Z74
 simp only [Option.bind_some]
 by_cases h1 : 2 ≤ n.N ∧ n.N ≤ 4096
 ·
  rw [if_pos h1.1, if_neg (not_not_intro h1)]
  simp only [Option.bind_some, decide_eq_true h1.2, Bool.not_true, Bool.false_eq_true, if_false]
  by_cases h2 : (n.Arcs.length : Int) ≤ 16384
  ·
   rw [if_neg (by simp [h2]), if_neg (not_not_intro h2)]
   by_cases h3 : Z39 n.N n.S = true ∧ Z39 n.N n.T = true ∧ n.S ≠ n.T
   ·
    rw [if_pos h3.1, if_pos h3.2.1, if_neg (not_not_intro h3)]
    simp only [Option.bind_some, decide_eq_true h3.2.2, Bool.not_true, Bool.false_eq_true, if_false]
    cases h4 : n.Arcs.all (Za9 n.N)
    · simp
    ·
     cases h5 : n.Arcs.all Zh4
     · simp
     · cases h6 : Zca 4611686018427387904 n.Arcs <;> simp
   ·
    rw [if_pos h3]
    by_cases a1 : Z39 n.N n.S = true
    ·
     by_cases a2 : Z39 n.N n.T = true
     ·
      have a3 : ¬ n.S ≠ n.T := fun e => h3 ⟨a1, a2, e⟩
      simp [a1, a2, a3]
     · simp [a1, a2]
    · simp [a1]
  · rw [if_pos (by simp [h2]), if_pos h2]
 ·
  rw [if_pos h1]
  by_cases a1 : 2 ≤ n.N
  ·
   have a2 : ¬ n.N ≤ 4096 := fun e => h1 ⟨a1, e⟩
   simp [a1, a2]
  · simp [a1]
end Go.Acq
namespace Go.Acq
open Go
set_option linter.unusedSimpArgs false
structure NetIn (n : Net) : Prop where
  nN : i64ok n.N
  nS : i64ok n.S
  nT : i64ok n.T
  arcs : ∀ a, a ∈ n.Arcs → i64ok a.fr ∧ i64ok a.to ∧ i64ok a.cap
  len : n.Arcs.length ≤ 9223372036854775807
structure Made (n : Net) (v a : Int) : Prop where
  check : Z74 n.N n.S n.T n.Arcs = 0
  rows : SomeAt n.N.toNat n.Arcs
  verts : n.N ≤ v
  arcs : (n.Arcs.length : Int) ≤ a
  ends : 2 ≤ n.N ∧ 0 ≤ n.S ∧ n.S < n.N ∧ 0 ≤ n.T ∧ n.T < n.N ∧ n.S ≠ n.T
theorem Made.nat {n : Net} {v a : Int} (h : Made n v a) : ∃ m : Nat, n.N = m ∧ SomeAt m n.Arcs := ⟨n.N.toNat, by have := h.ends.1; omega, h.rows⟩
theorem Made.caps {n : Net} {m : Nat} (h : SomeAt m n.Arcs) : ∀ i, i < n.Arcs.length → 0 ≤ (n.Arcs.getD i default).cap ∧ (n.Arcs.getD i default).cap < 1125899906842624 := fun _ hi => (h _ (Z65 hi default)).2
theorem s_Some {n : Net} {v a : Int} (h : NetIn n) (hv0 : 2 ≤ v) (hv1 : v ≤ 4096) (ha0 : 0 ≤ a) (ha1 : a ≤ 4096) : Ok (Z4d n v a) (fun r => Made r v a) := by
 have hN := Z7w (x := n.N) (n := v - 1) (by omega)
 unfold Z4d
 refine Ok.gd.2 ⟨(by omega), Ok.bind.2 (Zbf (Zcc (by omega)) (Ok.gd.2 ⟨(by omega), ?_⟩))⟩
 obtain ⟨m, hm⟩ : ∃ m : Nat, 2 + Zcn n.N (v - 1) = m := ⟨(2 + Zcn n.N (v - 1)).toNat, by omega⟩
 rw [hm]
 have hS := Z7w (x := n.S) (n := (m : Int)) (by omega)
 have hT := Z7w (x := n.T) (n := (m : Int)) (by omega)
 refine Ok.bind.2 (Zbf (Zcc (by omega)) (Ok.bind.2 (Zbf (Zcc (by omega)) ?_)))
 have key : ∀ t : Int, 0 ≤ t → t < m → t ≠ Zcn n.S m → Ok (Z2l n a (Zcn n.N (v - 1)) (Zcn n.S m) t) (fun r => Made r v a) := by
  intro t t0 t1 t2
  unfold Z2l
  refine Ok.gd.2 ⟨(by omega), Ok.bind.2 ?_⟩
  obtain ⟨q, hq⟩ : ∃ q : Nat, min (n.Arcs.length : Int) a = q := ⟨(min (n.Arcs.length : Int) a).toNat, by omega⟩
  obtain ⟨al, hal⟩ : ∃ l, l = n.Arcs.take (q : Int).toNat := ⟨_, rfl⟩
  have hlen : al.length = q := by rw [hal, List.length_take]; omega
  have hcap : ∀ b, b ∈ al → i64ok b.cap := fun b hb => (h.arcs b (List.mem_of_mem_take (by rw [← hal]; exact hb))).2.2
  refine Z86 (fun s => ∃ k : Nat, s.2 = k ∧ k ≤ q ∧ s.1.length = k ∧ SomeAt m s.1) (fun s => (q - s.2).toNat) ⟨0, rfl, by omega, rfl, fun b hb => by cases hb⟩ (by unfold Z40; simp only; omega) ?_
  rintro ⟨ol, x⟩ ⟨k, h1, h2, h3, h4⟩ P next exit
  simp only at h1 h2 h3 h4 next ⊢
  subst h1
  unfold Z37
  rw [hq, ← hal]
  simp only [Int.toNat_natCast]
  refine Ok.ite.2 ⟨fun hx => ?_, fun hx => ?_⟩
  ·
   have hkl : k < al.length := by omega
   have hc := hcap _ (Z65 hkl default)
   have hj : ∀ c : Int, 0 ≤ c → Ok (Z2k n a (Zcn n.N (v - 1)) ol k c) P := by
    intro c hc0
    unfold Z2k
    rw [hq, ← hal, hm]
    refine Ok.bind.2 (Zbf (Zcc (by omega)) (Ok.bind.2 (Zbf (Zcc (by omega)) (Ok.gd.2 ⟨?_, Ok.gd.2 ⟨(by omega), Ok.some.2 (next _ ⟨k + 1, by simp, by omega, by simp [h3], ?_⟩ (by simp only; omega))⟩⟩))))
    · rw [List.length_append, h3]; simp only [List.length_cons, List.length_nil]; constructor <;> omega
    · exact h4.put (Z7w (by omega)) (Z7w (by omega)) (Zhk hc0 (by omega))
   refine Ok.gd.2 ⟨(by omega), Ok.ite.2 ⟨fun hn => ?_, fun hn => ?_⟩⟩
   · exact Ok.gd.2 ⟨by constructor <;> omega, Ok.gd.2 ⟨by constructor <;> omega, hj (-((al.getD k default).cap + 1)) (by omega)⟩⟩
   · exact hj (al.getD k default).cap (by omega)
  ·
   refine Ok.some.2 (exit _ ?_)
   unfold Z46
   refine Ok.some.2 ?_
   rw [hm]
   exact ⟨Zhm (by omega) (by omega) hS ⟨t0, t1⟩ t2 h4 (show ol.length ≤ 4096 by omega), by simpa using h4, by simp only; omega, by show (ol.length : Int) ≤ a; omega, ⟨by simp only; omega, hS.1, hS.2, t0, t1, fun e => t2 e.symm⟩⟩
 refine Ok.ite.2 ⟨fun he => ?_, fun he => ?_⟩
 ·
  refine Ok.gd.2 ⟨(by omega), Ok.gd.2 ⟨by omega, ?_⟩⟩
  obtain ⟨n1, n2, n3⟩ := next_ne hS.1 hS.2 (by omega)
  exact key _ n1 n2 n3
 · exact key _ hT.1 hT.2 (fun e => he e.symm)
structure CsrIs (n : Net) (m : Nat) (c : Csr) : Prop where
  hN : c.N = m
  hS : c.S = n.S
  hT : c.T = n.T
  ok : CsrOK n.Arcs m c.First c.Head c.Rev c.Cap c.Arc c.Back
end Go.Acq
namespace Go.Acq
open Go
set_option linter.unusedSimpArgs false
def ex (al : List Arc) (f : List Int) (v : Int) : Nat → Int
  | 0 => 0
  | k + 1 => ex al f v k - (if (al.getD k default).fr = v then f.getD k 0 else 0) + (if (al.getD k default).to = v then f.getD k 0 else 0)
def tot (f : List Int) : Nat → Int
  | 0 => 0
  | k + 1 => tot f k + f.getD k 0
def part (al : List Arc) (f : List Int) (j : Int) : Nat → Int
  | 0 => 0
  | k + 1 => part al f j k - (if (al.getD k default).fr < j then f.getD k 0 else 0) + (if (al.getD k default).to < j then f.getD k 0 else 0)
theorem ex_le {al : List Arc} {f : List Int} (v : Int) {n : Nat} (h : ∀ i, i < n → 0 ≤ f.getD i 0) : ∀ k, k ≤ n → -tot f k ≤ ex al f v k ∧ ex al f v k ≤ tot f k
 | 0, _ => by simp [ex, tot]
 | k + 1, hk => by
  have ih := ex_le (al := al) v h k (by omega)
  have := h k hk
  simp only [ex, tot]
  split <;> split <;> omega
theorem Zfd {al : List Arc} {f : List Int} (j : Int) : ∀ k, part al f (j + 1) k = part al f j k + ex al f j k
 | 0 => by simp [part, ex]
 | k + 1 => by
  have ih := Zfd (al := al) (f := f) j k
  simp only [part, ex, ih]
  have e1 : ∀ x : Int, (if x < j + 1 then f.getD k 0 else 0) = (if x < j then f.getD k 0 else 0) + (if x = j then f.getD k 0 else 0) := fun x => by
   by_cases h1 : x < j
   · rw [if_pos h1, if_pos (by omega), if_neg (by omega)]; omega
   ·
    by_cases h2 : x = j
    · rw [if_neg h1, if_pos (by omega), if_pos h2]; omega
    · rw [if_neg h1, if_neg (by omega), if_neg h2]; omega
  rw [e1, e1]; omega
theorem Zfe {al : List Arc} {f : List Int} {m : Nat} (he : Z5b m al) : ∀ k, k ≤ al.length → part al f 0 k = 0
 | 0, _ => rfl
 | k + 1, hk => by
  have h0 := he k hk false
  have h1 := he k hk true
  simp only [vtx, Bool.false_eq_true, if_false, if_true] at h0 h1
  simp only [part, Zfe he k (by omega)]
  rw [if_neg (by omega), if_neg (by omega)]; rfl
theorem Zgv {al : List Arc} {f : List Int} {m : Nat} (he : Z5b m al) : ∀ k, k ≤ al.length → part al f m k = 0
 | 0, _ => rfl
 | k + 1, hk => by
  have h0 := he k hk false
  have h1 := he k hk true
  simp only [vtx, Bool.false_eq_true, if_false, if_true] at h0 h1
  simp only [part, Zgv he k (by omega)]
  rw [if_pos h0.2, if_pos h1.2]; omega
theorem Zeg {f : List Int} {n : Nat} (h : ∀ i, i < n → 0 ≤ f.getD i 0) : ∀ j k, j ≤ k → k ≤ n → tot f j ≤ tot f k
  | j, 0, hj, _ => by have : j = 0 := by omega
                      subst this; exact Int.le_refl _
  | j, k + 1, hj, hk => by
    rcases Nat.lt_or_ge j (k + 1) with h1 | h1
    · have := Zeg h j k (by omega) (by omega)
      have := h k hk
      simp only [tot]; omega
    · rw [show j = k + 1 by omega]; exact Int.le_refl _
theorem sumL_tot {f : List Int} : ∀ (al : List Arc) (left : Int) (k : Nat), (Zca left (al.drop k)).isSome = true → 0 ≤ left → k ≤ al.length → (∀ i, i < al.length → 0 ≤ f.getD i 0 ∧ f.getD i 0 ≤ (al.getD i default).cap) → tot f al.length - tot f k ≤ left := by
 intro al left k
 induction hn : al.length - k generalizing left k with
 | zero =>
  intro _ h0 hk _
  rw [show k = al.length by omega]; omega
 | succ n ih =>
  intro hs h0 hk hf
  have hkl : k < al.length := by omega
  rw [Zf9 hkl] at hs
  by_cases hc : (al.getD k default).cap < 0 ∨ left < (al.getD k default).cap
  · rw [if_pos hc] at hs; cases hs
  ·
   rw [if_neg hc] at hs
   have := ih (left - (al.getD k default).cap) (k + 1) (by omega) hs (by omega) (by omega) hf
   have hfk := hf k hkl
   simp only [tot] at this
   omega
def FwithinP (n : Net) (f : List Int) : Prop := Z74 n.N n.S n.T n.Arcs = 0 ∧ f.length = n.Arcs.length ∧ ∀ i, i < n.Arcs.length → 0 ≤ f.getD i 0 ∧ f.getD i 0 ≤ (n.Arcs.getD i default).cap
theorem FwithinP.tot {n : Net} {f : List Int} (h : FwithinP n f) : ∀ k, k ≤ n.Arcs.length → 0 ≤ tot f k ∧ tot f k ≤ 4611686018427387904 := by
 intro k hk
 have hz := Z2s h.1
 have h1 := sumL_tot (f := f) n.Arcs 4611686018427387904 0 (by simpa using hz.2.2.2.2.2) (by omega) (by omega) h.2.2
 have h2 := Zeg (fun i hi => (h.2.2 i hi).1) k n.Arcs.length hk (Nat.le_refl _)
 have h3 := Zeg (fun i hi => (h.2.2 i hi).1) 0 k (by omega) hk
 simp only [Acq.tot] at h1 h3
 omega
theorem Zcb {n : Net} {f : List Int} (hl : lenok n.Arcs.length) : Ok (Z4n n f) (fun b => b = true ↔ FwithinP n f) := by
 unfold Z4n
 refine Ok.bind.2 (Zbf (s_Check n hl) (Ok.ite.2 ⟨fun h => Ok.some.2 ⟨fun h2 => (by cases h2), fun h2 => absurd h2.1 h⟩, fun h1 => Ok.ite.2 ⟨fun h => Ok.some.2 ⟨fun h2 => (by cases h2), fun h2 => absurd h2.2.1 (by omega)⟩, fun h2 => Ok.bind.2 ?_⟩⟩))
 have hz := Z2s (Classical.not_not.1 h1)
 refine Z86 (fun x => ∃ k : Nat, x = k ∧ k ≤ n.Arcs.length ∧ ∀ i, i < k → 0 ≤ f.getD i 0 ∧ f.getD i 0 ≤ (n.Arcs.getD i default).cap) (fun x => (n.Arcs.length - x).toNat) ⟨0, rfl, by omega, fun i hi => by omega⟩ (by unfold Z40; omega) ?_
 rintro x ⟨k, rfl, hk, h3⟩ P next exit
 unfold Z4p
 simp only [Int.toNat_natCast]
 refine Ok.ite.2 ⟨fun hx => ?_, fun hx => ?_⟩
 ·
  refine Ok.gd.2 ⟨(by omega), Ok.gd.2 ⟨(by omega), Ok.ite.2 ⟨fun h => Ok.some.2 (exit _ (Ok.some.2 ⟨fun h2 => (by cases h2), fun h2 => by have := h2.2.2 k (by omega); omega⟩)), fun h4 => Ok.gd.2 ⟨(by omega), Ok.ite.2 ⟨fun h => Ok.some.2 (exit _ (Ok.some.2 ⟨fun h2 => (by cases h2), fun h2 => by have := h2.2.2 k (by omega); omega⟩)), fun h5 => Ok.gd.2 ⟨(by omega), Ok.some.2 (next _ ⟨k + 1, by simp, by omega, fun i hi => ?_⟩ (by omega))⟩⟩⟩⟩⟩⟩
  rcases Nat.lt_or_ge i k with h | h
  · exact h3 i h
  · rw [show i = k by omega]; omega
 ·
  refine Ok.some.2 (exit _ ?_)
  unfold Z63
  exact Ok.some.2 ⟨fun _ => ⟨Classical.not_not.1 h1, by omega, fun i hi => h3 i (by omega)⟩, fun _ => rfl⟩
theorem Zej {n : Net} {f : List Int} (hl : lenok n.Arcs.length) : Ok (Z4o n f) (fun r => (FwithinP n f ∧ r.2 = 0 ∧ r.1.length = n.N.toNat ∧ ∀ v : Nat, v < n.N.toNat → r.1.getD v 0 = ex n.Arcs f v n.Arcs.length) ∨ (¬ FwithinP n f ∧ r = ([], 20))) := by
 unfold Z4o
 refine Ok.bind.2 (Ok.mono (Zcb hl) fun b hb => Ok.ite.2 ⟨fun h => Ok.some.2 (.inr ⟨fun h2 => (by rw [hb.2 h2] at h; cases h), rfl⟩), fun h => ?_⟩)
 have hw : FwithinP n f := hb.1 (by cases b; exact absurd rfl h; rfl)
 have hz := Z2s hw.1
 obtain ⟨m, hm⟩ : ∃ m : Nat, n.N = m := ⟨n.N.toNat, by omega⟩
 have he : Z5b m n.Arcs := Zcj (by rw [← hm]; exact hz.2.2.2.1)
 have hfl := hw.2.1
 refine Ok.gd.2 ⟨(by omega), Ok.bind.2 ?_⟩
 rw [hm]
 simp only [Int.toNat_natCast]
 refine Z86 (fun s => ∃ k : Nat, s.2 = k ∧ k ≤ n.Arcs.length ∧ s.1.length = m ∧ ∀ v : Nat, v < m → s.1.getD v 0 = ex n.Arcs f v k) (fun s => (n.Arcs.length - s.2).toNat) ⟨0, rfl, by omega, List.length_replicate, fun v _ => by rw [Z1x]; rfl⟩ (by unfold Z40; simp only; omega) ?_
 rintro ⟨xs, x⟩ ⟨k, h1, hk, h3, h4⟩ P next exit
 simp only at h1 h3 h4 next ⊢
 subst h1
 unfold Z4q
 simp only [Int.toNat_natCast]
 refine Ok.ite.2 ⟨fun hx => ?_, fun hx => ?_⟩
 ·
  have hkl : k < n.Arcs.length := by omega
  have e0 := he k hkl false
  have e1 := he k hkl true
  simp only [vtx, Bool.false_eq_true, if_false, if_true] at e0 e1
  obtain ⟨p, hp⟩ : ∃ p : Nat, (n.Arcs.getD k default).fr = p := ⟨(n.Arcs.getD k default).fr.toNat, by omega⟩
  obtain ⟨q, hq⟩ : ∃ q : Nat, (n.Arcs.getD k default).to = q := ⟨(n.Arcs.getD k default).to.toNat, by omega⟩
  have hfk := hw.2.2 k hkl
  have b0 := ex_le (al := n.Arcs) (f := f) (p : Int) (fun i hi => (hw.2.2 i hi).1) k hk
  have b1 := ex_le (al := n.Arcs) (f := f) (q : Int) (fun i hi => (hw.2.2 i hi).1) k hk
  have t0 := hw.tot k hk
  have t1 := hw.tot (k + 1) hkl
  simp only [tot] at t1
  rw [hp] at e0
  rw [hq] at e1
  have v0 := h4 p (by omega)
  have v1 := h4 q (by omega)
  simp only [hp, hq, Int.toNat_natCast, v0, Zab, List.length_set, h3]
  refine Ok.gd.2 ⟨(by omega), Ok.gd.2 ⟨(by omega), Ok.gd.2 ⟨(by omega), Ok.gd.2 ⟨(by omega), Ok.gd.2 ⟨(by omega), Ok.gd.2 ⟨(by omega), Ok.gd.2 ⟨(by omega), Ok.gd.2 ⟨by split <;> constructor <;> omega, Ok.gd.2 ⟨(by omega), Ok.gd.2 ⟨(by omega), Ok.some.2 (next _ ⟨k + 1, by simp, by omega, by simp [h3], fun v hv => ?_⟩ (by simp only; omega))⟩⟩⟩⟩⟩⟩⟩⟩⟩⟩
  simp only [Zab, List.length_set, h3, ex, hp, hq]
  rw [h4 v hv]
  by_cases c1 : p = v
  ·
   subst c1
   by_cases c2 : q = p
   ·
    subst c2
    simp only [true_and, if_true]
    rw [if_pos (by omega)]; simp [show q < m by omega]
   · rw [if_neg (fun h => c2 h.1), if_pos ⟨rfl, by omega⟩, if_pos rfl, if_neg (by omega)]; omega
  ·
   by_cases c2 : q = v
   ·
    subst c2
    rw [if_pos ⟨rfl, by omega⟩, if_neg (fun h => c1 h.1), if_neg (by omega), if_pos rfl, v1]; omega
   · rw [if_neg (fun h => c2 h.1), if_neg (fun h => c1 h.1), if_neg (by omega), if_neg (by omega)]; omega
 ·
  refine Ok.some.2 (exit _ ?_)
  unfold Z64
  rw [show k = n.Arcs.length by omega] at h4
  exact Ok.some.2 (.inl ⟨hw, rfl, h3, h4⟩)
theorem Zhn {s : List Int} {v : Int} (hl : lenok s.length) : Z2y s v = some (s.contains v) := by
 refine Zge ?_
 unfold Z2y Z4y
 refine Ok.bind.2 (Ok.bind.2 (Z86 (fun x => ∃ k : Nat, x = k ∧ k ≤ s.length ∧ ∀ j, j < k → s.getD j 0 ≠ v) (fun x => (s.length - x).toNat) ⟨0, rfl, by omega, fun j hj => by omega⟩ (by unfold Z40; omega) ?_))
 rintro x ⟨k, rfl, g2, g3⟩ P next exit
 unfold Z2x
 simp only [Int.toNat_natCast]
 refine Ok.ite.2 ⟨fun hx => ?_, fun hx => ?_⟩
 ·
  refine Ok.gd.2 ⟨(by omega), Ok.ite.2 ⟨fun h => Ok.some.2 (exit _ (Ok.some.2 (Ok.some.2 ?_))), fun h => Ok.gd.2 ⟨(by omega), Ok.some.2 (next _ ⟨k + 1, by simp, by omega, fun j hj => ?_⟩ (by omega))⟩⟩⟩
  ·
   rw [show s.contains v = true from List.contains_iff_mem.2 (by rw [h]; exact Z65 (by omega) 0)]
   exact decide_eq_true (by omega)
  ·
   rcases Nat.lt_or_ge j k with h1 | h1
   · exact g3 j h1
   · rw [show j = k by omega]; exact fun e => h e.symm
 ·
  refine Ok.some.2 (exit _ ?_)
  unfold Z3r
  refine Ok.some.2 (Ok.some.2 ?_)
  have : s.contains v = false := by
   rw [Bool.eq_false_iff]
   intro hc
   obtain ⟨j, hj, e⟩ := List.mem_iff_getElem.1 (List.contains_iff_mem.1 hc)
   have := g3 j (by omega)
   rw [List.getD_eq_getElem?_getD, List.getElem?_eq_getElem hj] at this
   exact this e
  rw [this]
  exact decide_eq_false (by omega)
theorem Z91 {b : Bool} (h : ¬(!b) = true) : b = true := by cases b; exact absurd rfl h; rfl
theorem Zhr {l : List Int} {x : Int} (h : ¬(!l.contains x) = true) : x ∈ l := List.contains_iff_mem.1 (Z91 h)
def Zkv (n : Net) (f : List Int) (so : Int → Prop) (but : List Int) : Prop := FwithinP n f ∧ ∀ v : Nat, v < n.N.toNat → so (ex n.Arcs f v n.Arcs.length) ∨ (v : Int) ∈ but
theorem s_Pre {n : Net} {f : List Int} (hl : lenok n.Arcs.length) : Ok (Z7m n f) (fun b => b = true ↔ Zkv n f (fun x => 0 ≤ x) [n.S]) := by
 unfold Z7m Z62
 refine Ok.bind.2 (Ok.mono (Q := fun b => b = true ↔ Zkv n f (fun x => 0 ≤ x) [n.S]) ?_ fun b hb => Ok.some.2 hb)
 refine Ok.bind.2 (Ok.mono (Zej hl) ?_)
 rintro ⟨l, e⟩ hle
 refine Ok.bind.2 (Z86 (fun x => ∃ k : Nat, x = k ∧ k ≤ l.length ∧ ∀ v, v < k → 0 ≤ l.getD v 0 ∨ (v : Int) ∈ [n.S]) (fun x => (l.length - x).toNat) ⟨0, rfl, by omega, fun j hj => by omega⟩ ?_ ?_)
 ·
  rcases hle with ⟨hw, -, h2, -⟩ | ⟨-, h2⟩
  · have := Z2s hw.1; simp only at h2; unfold Z40; omega
  · injection h2 with h2 h3; subst h2; unfold Z40; simp
 rintro x ⟨k, rfl, g2, g3⟩ P next exit
 unfold Z3h Z89
 simp only [Int.toNat_natCast]
 have hlen : l.length ≤ 4096 := by
  rcases hle with ⟨hw, -, h2, -⟩ | ⟨-, h2⟩
  · have := Z2s hw.1; simp only at h2; omega
  · injection h2 with h2 h3; subst h2; simp
 refine Ok.ite.2 ⟨fun hx => ?_, fun hx => ?_⟩
 ·
  refine Ok.gd.2 ⟨(by omega), Ok.bind.2 (Ok.some.2 (Ok.ite.2 ⟨fun h => Ok.bind.2 (Zbf (Zhn (by simp)) (Ok.ite.2 ⟨fun h2 => Ok.some.2 (exit _ (Ok.some.2 ⟨fun h3 => (by cases h3), fun h3 => ?_⟩)), fun h2 => Ok.gd.2 ⟨(by omega), Ok.some.2 (next _ ⟨k + 1, by simp, by omega, fun j hj => ?_⟩ (by omega))⟩⟩)), fun h => Ok.gd.2 ⟨(by omega), Ok.some.2 (next _ ⟨k + 1, by simp, by omega, fun j hj => ?_⟩ (by omega))⟩⟩))⟩
  ·
   exfalso
   rcases hle with ⟨hw, -, h5, h6⟩ | ⟨h5, -⟩
   ·
    simp only at h5 h6
    rcases h3.2 k (by omega) with h7 | h7
    · rw [← h6 k (by omega)] at h7; rw [decide_eq_true h7] at h; cases h
    · rw [List.contains_iff_mem.2 h7] at h2; cases h2
   · exact h5 h3.1
  ·
   rcases Nat.lt_or_ge j k with h1 | h1
   · exact g3 j h1
   · rw [show j = k by omega]; right; exact Zhr h2
  ·
   rcases Nat.lt_or_ge j k with h1 | h1
   · exact g3 j h1
   · rw [show j = k by omega]; left; exact of_decide_eq_true (Z91 h)
 ·
  refine Ok.some.2 (exit _ ?_)
  unfold Z4m
  refine Ok.some.2 ?_
  rcases hle with ⟨hw, h4, h5, h6⟩ | ⟨h5, h6⟩
  ·
   simp only at h4 h5 h6
   refine ⟨fun _ => ⟨hw, fun v hv => ?_⟩, fun _ => decide_eq_true h4⟩
   rw [← h6 v hv]; exact g3 v (by omega)
  ·
   injection h6 with h6 h7
   simp only [h7]
   exact ⟨fun h => (by cases h), fun h => absurd h.1 h5⟩
end Go.Acq
namespace Go.Acq
open Go
set_option linter.unusedSimpArgs false
set_option linter.unusedVariables false
def Ziu (al : List Arc) (f : List Int) (v : Nat) : Nat → List Int
  | 0 => []
  | k + 1 => Ziu al f v k ++ (if 0 < f.getD k 0 ∧ (al.getD k default).fr = (v : Int) then [(k : Int)] else [])
def OutIs (n : Net) (m : Nat) (f : List Int) (out : List (List Int)) : Prop := out.length = m ∧ ∀ v, v < m → out.getD v [] = Ziu n.Arcs f v n.Arcs.length
theorem outK_mem {al : List Arc} {f : List Int} {v : Nat} {x : Int} : ∀ {k : Nat}, x ∈ Ziu al f v k ↔ ∃ i : Nat, i < k ∧ x = i ∧ 0 < f.getD i 0 ∧ (al.getD i default).fr = (v : Int)
 | 0 => by simp [Ziu]
 | k + 1 => by
  rw [Ziu, List.mem_append, outK_mem (k := k)]
  constructor
  ·
   rintro (⟨i, h1, h2⟩ | h)
   · exact ⟨i, by omega, h2⟩
   ·
    split at h
    · rename_i h2; rw [List.mem_singleton] at h; exact ⟨k, by omega, h, h2⟩
    · cases h
  ·
   rintro ⟨i, h1, h2, h3⟩
   rcases Nat.lt_or_ge i k with h | h
   · exact .inl ⟨i, h, h2, h3⟩
   ·
    have e : i = k := by omega
    subst e
    exact .inr (by rw [if_pos h3, h2]; exact .head _)
theorem Zem {al : List Arc} {f : List Int} {v : Nat} : ∀ k, (Ziu al f v k).length ≤ k
 | 0 => Nat.le_refl _
 | k + 1 => by
  have := Zem (al := al) (f := f) (v := v) k
  rw [Ziu, List.length_append]
  split <;> simp <;> omega
theorem Zbd {al : List Arc} {f : List Int} {v : Nat} : ∀ k, (Ziu al f v k).Nodup
 | 0 => List.nodup_nil
 | k + 1 => by
  rw [Ziu, List.nodup_append]
  refine ⟨Zbd k, by split <;> simp, fun a ha b hb e => ?_⟩
  subst e
  split at hb
  ·
   rw [List.mem_singleton] at hb
   obtain ⟨i, h1, h2, -⟩ := outK_mem.1 ha
   omega
  · cases hb
theorem OutIs.at {n : Net} {m : Nat} {f : List Int} {out : List (List Int)} (h : OutIs n m f out) {v q : Nat} (hv : v < m) (hq : q < (out.getD v []).length) :
    ∃ k : Nat, (out.getD v []).getD q 0 = k ∧ k < n.Arcs.length ∧ 0 < f.getD k 0 ∧ (n.Arcs.getD k default).fr = (v : Int) := by
  have := Z65 hq 0
  rw [h.2 v hv] at this
  obtain ⟨i, h1, h2, h3, h4⟩ := outK_mem.1 this
  exact ⟨i, by rw [h.2 v hv]; exact h2, h1, h3, h4⟩
theorem OutIs.in {n : Net} {m : Nat} {f : List Int} {out : List (List Int)} (h : OutIs n m f out) {v k : Nat} (hv : v < m) (hk : k < n.Arcs.length) (hf : 0 < f.getD k 0) (he : (n.Arcs.getD k default).fr = (v : Int)) :
    ∃ q, q < (out.getD v []).length ∧ (out.getD v []).getD q 0 = k := by
  have : (k : Int) ∈ out.getD v [] := by rw [h.2 v hv]; exact outK_mem.2 ⟨k, hk, rfl, hf, he⟩
  obtain ⟨q, hq, e⟩ := List.getElem_of_mem this
  exact ⟨q, hq, by rw [List.getD_eq_getElem?_getD, List.getElem?_eq_getElem hq]; exact e⟩
theorem OutIs.len {n : Net} {m : Nat} {f : List Int} {out : List (List Int)} (h : OutIs n m f out) {v : Nat} (hv : v < m) : (out.getD v []).length ≤ n.Arcs.length := by
 rw [h.2 v hv]; exact Zem _
def Acyc (n : Net) (f : List Int) : Prop := ∃ ρ : Nat → Nat, ∀ k, k < n.Arcs.length → 0 < f.getD k 0 → ρ (n.Arcs.getD k default).to.toNat < ρ (n.Arcs.getD k default).fr.toNat
def Cyc (n : Net) (f : List Int) (c : List Int) : Prop := 0 < c.length ∧
  (∀ j, j < c.length → ∃ k : Nat, c.getD j 0 = k ∧ k < n.Arcs.length ∧ 0 < f.getD k 0 ∧ (n.Arcs.getD k default).to = (n.Arcs.getD (c.getD ((j + 1) % c.length) 0).toNat default).fr) ∧
  ∀ i j, i < c.length → j < c.length → (n.Arcs.getD (c.getD i 0).toNat default).fr = (n.Arcs.getD (c.getD j 0).toNat default).fr → i = j
theorem Cyc.not {n : Net} {f c : List Int} (h : Cyc n f c) : ¬ Acyc n f := by
 rintro ⟨ρ, hρ⟩
 obtain ⟨h0, h1, -⟩ := h
 let g : Nat → Nat := fun j => ρ (n.Arcs.getD (c.getD j 0).toNat default).fr.toNat
 have hs : ∀ j, j < c.length → g ((j + 1) % c.length) < g j := by
  intro j hj
  obtain ⟨k, e1, e2, e3, e4⟩ := h1 j hj
  have := hρ k e2 e3
  rw [e4] at this
  show ρ _ < ρ (n.Arcs.getD (c.getD j 0).toNat default).fr.toNat
  rw [e1, Int.toNat_natCast]
  exact this
 have key : ∀ j, j < c.length → g j + j ≤ g 0 := by
  intro j
  induction j with
  | zero => intro _; omega
  | succ j ih =>
   intro hj
   have h2 := ih (by omega)
   have h3 := hs j (by omega)
   rw [Nat.mod_eq_of_lt hj] at h3
   omega
 have h2 := key (c.length - 1) (by omega)
 have h3 := hs (c.length - 1) (by omega)
 rw [show c.length - 1 + 1 = c.length by omega, Nat.mod_self] at h3
 omega
theorem Zj2 {n : Net} {m : Nat} {f : List Int} (hm : n.N = m) (hm2 : m ≤ 4096) (he : Z5b m n.Arcs) (hl : n.Arcs.length ≤ 16384) (hf : f.length = n.Arcs.length) :
    Ok (Z4v n f) (fun s => ∃ out, s = CyclesSearch.mk n out (List.replicate m 0) (List.replicate m false) (List.replicate m false) [] ∧ OutIs n m f out) := by
  unfold Z4v
  rw [hm]
  refine Ok.gd.2 ⟨(by omega), Ok.gd.2 ⟨(by omega), Ok.gd.2 ⟨(by omega), Ok.gd.2 ⟨(by omega), Ok.bind.2 ?_⟩⟩⟩⟩
  simp only [Int.toNat_natCast]
  refine Z86 (fun s => ∃ k : Nat, s.2 = k ∧ k ≤ n.Arcs.length ∧ s.1.length = m ∧ ∀ v, v < m → s.1.getD v [] = Ziu n.Arcs f v k) (fun s => (n.Arcs.length - s.2).toNat) ⟨0, rfl, by omega, List.length_replicate, fun v _ => by rw [Z1x]; rfl⟩ (by unfold Z40; simp only; omega) ?_
  rintro ⟨xs, x⟩ ⟨k, h1, hk, h3, h4⟩ P next exit
  simp only at h1 h3 h4 next ⊢
  subst h1
  unfold Z4a
  simp only [Int.toNat_natCast]
  refine Ok.ite.2 ⟨fun hx => ?_, fun hx => ?_⟩
  · have hkl : k < n.Arcs.length := by omega
    have e0 := he k hkl false
    simp only [vtx, Bool.false_eq_true, if_false] at e0
    obtain ⟨p, hp⟩ : ∃ p : Nat, (n.Arcs.getD k default).fr = p := ⟨(n.Arcs.getD k default).fr.toNat, by omega⟩
    rw [hp] at e0
    refine Ok.gd.2 ⟨(by constructor <;> omega), Ok.gd.2 ⟨(by constructor <;> omega), Ok.ite.2 ⟨fun hp0 => ?_, fun hp0 => Ok.gd.2 ⟨(by constructor <;> omega), Ok.some.2 (next _ ⟨k + 1, by simp, by omega, h3, fun v hv => ?_⟩ (by simp only; omega))⟩⟩⟩⟩
    · simp only [hp, Int.toNat_natCast]
      have h5 := h4 p (by omega)
      have h6 := Zem (al := n.Arcs) (f := f) (v := p) k
      refine Ok.gd.2 ⟨(by constructor <;> omega), Ok.gd.2 ⟨?_, Ok.gd.2 ⟨(by constructor <;> omega), Ok.some.2 (next _ ⟨k + 1, by simp, by omega, by simp [h3], fun v hv => ?_⟩ (by simp only; omega))⟩⟩⟩
      · rw [List.length_append, h5]; simp only [List.length_singleton]; constructor <;> omega
      · rw [Zab, h3, h5, Ziu]
        by_cases e : p = v
        · subst e; rw [if_pos ⟨rfl, by omega⟩, if_pos ⟨hp0, hp⟩]
        · rw [if_neg (fun h => e h.1), if_neg (fun h => by have := h.2; rw [hp] at this; omega), List.append_nil]; exact h4 v hv
    · rw [Ziu, if_neg (fun h => hp0 h.1), List.append_nil]; exact h4 v hv
  · refine Ok.some.2 (exit _ ?_)
    unfold Z5i
    simp only [hm, Int.toNat_natCast]
    exact Ok.some.2 ⟨xs, rfl, h3, fun v hv => by rw [h4 v hv, show k = n.Arcs.length by omega]⟩
end Go.Acq
namespace Go.Acq
open Go
set_option linter.unusedSimpArgs false
set_option linter.unusedVariables false
section dfs
variable {n : Net} {m : Nat} {f : List Int} {out : List (List Int)}
def past (n : Net) (out : List (List Int)) (dn : List Bool) (u q : Nat) : Prop := ∀ j, j < q → dn.getD (n.Arcs.getD ((out.getD u []).getD j 0).toNat default).to.toNat false = true
inductive Chain (n : Net) (f : List Int) (out : List (List Int)) (at_ : List Int) (dn : List Bool) : List Nat → List Nat → Prop
  | root (r : Nat) : Chain n f out at_ dn [r] []
  | step {v u e : Nat} {ps es : List Nat} (h1 : e < n.Arcs.length) (h2 : 0 < f.getD e 0) (h3 : (n.Arcs.getD e default).fr = (u : Int)) (h4 : (n.Arcs.getD e default).to = (v : Int))
      (h5 : ∃ q : Nat, at_.getD u 0 = ((q + 1 : Nat) : Int) ∧ (out.getD u []).getD q 0 = (e : Int) ∧ past n out dn u q) (h6 : Chain n f out at_ dn (u :: ps) es) : Chain n f out at_ dn (v :: u :: ps) (e :: es)
theorem past.mono {dn dn' : List Bool} {u q : Nat} (h : past n out dn u q) (hd : ∀ x, dn.getD x false = true → dn'.getD x false = true) : past n out dn' u q := fun j hj => hd _ (h j hj)
theorem Chain.mono {at_ at' : List Int} {dn dn' : List Bool} {pv es : List Nat} (h : Chain n f out at_ dn pv es) (hd : ∀ x, dn.getD x false = true → dn'.getD x false = true) (ha : ∀ x, x ∈ pv.tail → at'.getD x 0 = at_.getD x 0) : Chain n f out at' dn' pv es := by
 induction h with
 | root r => exact .root r
 | step h1 h2 h3 h4 h5 h6 ih =>
  obtain ⟨q, q1, q2, q3⟩ := h5
  refine .step h1 h2 h3 h4 ⟨q, by rw [ha _ (.head _)]; exact q1, q2, q3.mono hd⟩ (ih fun x hx => ha x ?_)
  exact .tail _ hx
theorem Chain.len {at_ : List Int} {dn : List Bool} {pv es : List Nat} (h : Chain n f out at_ dn pv es) : pv.length = es.length + 1 := by
 induction h with
 | root r => rfl
 | step _ _ _ _ _ _ ih => simp only [List.length_cons] at ih ⊢; omega
theorem Chain.at {at_ : List Int} {dn : List Bool} {pv es : List Nat} (h : Chain n f out at_ dn pv es) : ∀ i, i < es.length → es.getD i 0 < n.Arcs.length ∧ 0 < f.getD (es.getD i 0) 0 ∧ (n.Arcs.getD (es.getD i 0) default).fr = (pv.getD (i + 1) 0 : Int) ∧ (n.Arcs.getD (es.getD i 0) default).to = (pv.getD i 0 : Int) := by
 induction h with
 | root r => intro i hi; simp at hi
 | step h1 h2 h3 h4 h5 h6 ih =>
  intro i hi
  cases i with
  | zero => exact ⟨h1, h2, h3, h4⟩
  | succ i =>
   have := ih i (by simpa using hi)
   simpa using this
structure DI (n : Net) (m : Nat) (f : List Int) (out : List (List Int)) (at_ : List Int) (dn : List Bool) : Prop where
  la : at_.length = m
  ld : dn.length = m
  lo : ∀ u, u < m → 0 ≤ at_.getD u 0 ∧ at_.getD u 0 ≤ ((out.getD u []).length : Int)
  rank : ∃ (ρ : Nat → Nat) (c : Nat), ∀ u, u < m → dn.getD u false = true → ρ u < c ∧ ∀ k, k < n.Arcs.length → 0 < f.getD k 0 → (n.Arcs.getD k default).fr = (u : Int) → dn.getD (n.Arcs.getD k default).to.toNat false = true ∧ ρ (n.Arcs.getD k default).to.toNat < ρ u
structure WI (n : Net) (m : Nat) (f : List Int) (out : List (List Int)) (r v : Nat) (pv es : List Nat) (at_ : List Int) (dn on : List Bool) (way : List Int) : Prop where
  di : DI n m f out at_ dn
  ch : Chain n f out at_ dn (v :: pv) es
  nd : (v :: pv).Nodup
  lt : ∀ u, u ∈ v :: pv → u < m
  way : way = es.reverse.map fun e : Nat => (e : Int)
  lon : on.length = m
  on : ∀ u, u < m → (on.getD u false = true ↔ u ∈ v :: pv)
  open_ : ∀ u, u ∈ v :: pv → dn.getD u false = false
  pst : past n out dn v (at_.getD v 0).toNat
  fresh : ∀ u, u < m → dn.getD u false = false → u ∉ v :: pv → at_.getD u 0 = 0
  root : ∃ pre, v :: pv = pre ++ [r]
structure EI (n : Net) (m : Nat) (f : List Int) (out : List (List Int)) (at_ : List Int) (dn on : List Bool) (way : List Int) : Prop where
  di : DI n m f out at_ dn
  way : way = []
  lon : on.length = m
  on : ∀ u, u < m → on.getD u false = false
  fresh : ∀ u, u < m → dn.getD u false = false → at_.getD u 0 = 0
theorem WI.begin {at_ : List Int} {dn on : List Bool} {way : List Int} {v : Nat} (h : EI n m f out at_ dn on way) (hv : v < m) (hd : dn.getD v false = false) : WI n m f out v v [] [] at_ dn (on.set v true) way := by
 refine ⟨h.di, .root v, by simp, fun u hu => ?_, h.way, by rw [List.length_set]; exact h.lon, fun u hu => ?_, fun u hu => ?_, fun j hj => ?_, fun u hu hdu _ => h.fresh u hu hdu, [], rfl⟩
 · rw [List.mem_singleton] at hu; subst hu; exact hv
 ·
  rw [Zab, h.lon, List.mem_singleton]
  by_cases e : v = u
  · rw [if_pos ⟨e, hv⟩]; exact ⟨fun _ => e.symm, fun _ => rfl⟩
  · rw [if_neg (fun h => e h.1), h.on u hu]; exact ⟨fun h => (by cases h), fun h => absurd h.symm e⟩
 · rw [List.mem_singleton] at hu; subst hu; exact hd
 · rw [h.fresh v hv hd] at hj; simp at hj
theorem WI.skip {r v q : Nat} {pv es : List Nat} {at_ : List Int} {dn on : List Bool} {way : List Int} (h : WI n m f out r v pv es at_ dn on way) (hq : at_.getD v 0 = (q : Int)) (hl : q < (out.getD v []).length)
    (hd : dn.getD (n.Arcs.getD ((out.getD v []).getD q 0).toNat default).to.toNat false = true) : WI n m f out r v pv es (at_.set v ((q : Int) + 1)) dn on way := by
  have hv := h.lt v (.head _)
  have hne : ∀ u, u ∈ pv → v ≠ u := fun u hu e => by subst e; exact (List.nodup_cons.1 h.nd).1 hu
  refine ⟨⟨by rw [List.length_set]; exact h.di.la, h.di.ld, fun u hu => ?_, h.di.rank⟩, h.ch.mono (fun _ h => h) (fun x hx => Z3n (hne x hx)), h.nd, h.lt, h.way, h.lon, h.on, h.open_, ?_, fun u hu hdu hup => ?_, h.root⟩
  · have := h.di.lo u hu
    rw [Zab, h.di.la]
    split
    · rename_i e; rw [← e.1]; omega
    · exact this
  · rw [Z5s (by rw [h.di.la]; exact hv)]
    intro j hj
    rcases Nat.lt_or_ge j q with h1 | h1
    · exact h.pst j (by rw [hq]; omega)
    · rw [show j = q by omega]; exact hd
  · have h1 : v ≠ u := fun e => hup (by rw [← e]; exact .head _)
    rw [Z3n h1]; exact h.fresh u hu hdu hup
theorem WI.push {r v q w k : Nat} {pv es : List Nat} {at_ : List Int} {dn on : List Bool} {way : List Int} (h : WI n m f out r v pv es at_ dn on way) (hq : at_.getD v 0 = (q : Int)) (hl : q < (out.getD v []).length)
    (hk : (out.getD v []).getD q 0 = (k : Int)) (hkl : k < n.Arcs.length) (hf : 0 < f.getD k 0) (hfr : (n.Arcs.getD k default).fr = (v : Int)) (hto : (n.Arcs.getD k default).to = (w : Int)) (hw : w < m) (hon : on.getD w false = false) (hd : dn.getD w false = false) :
    WI n m f out r w (v :: pv) (k :: es) (at_.set v ((q : Int) + 1)) dn (on.set w true) (way ++ [(k : Int)]) := by
  have hv := h.lt v (.head _)
  have hwn : w ∉ v :: pv := fun hm => by have := (h.on w hw).2 hm; rw [hon] at this; cases this
  have hvw : v ≠ w := fun e => hwn (e ▸ .head _)
  have hne : ∀ u, u ∈ pv → v ≠ u := fun u hu e => by subst e; exact (List.nodup_cons.1 h.nd).1 hu
  have hw0 := h.fresh w hw hd hwn
  refine ⟨⟨by rw [List.length_set]; exact h.di.la, h.di.ld, fun u hu => ?_, h.di.rank⟩, .step hkl hf hfr hto ⟨q, by rw [Z5s (by rw [h.di.la]; exact hv)]; omega, hk, fun j hj => h.pst j (by rw [hq]; omega)⟩ (h.ch.mono (fun _ h => h) (fun x hx => Z3n (hne x hx))), List.nodup_cons.2 ⟨hwn, h.nd⟩, fun u hu => ?_, ?_, by rw [List.length_set]; exact h.lon, fun u hu => ?_, fun u hu => ?_, ?_, fun u hu hdu hup => ?_, (by obtain ⟨pre, e⟩ := h.root; exact ⟨w :: pre, by rw [e]; rfl⟩)⟩
  · have := h.di.lo u hu
    rw [Zab, h.di.la]
    split
    · rename_i e; rw [← e.1]; omega
    · exact this
  · rcases List.mem_cons.1 hu with rfl | hu
    · exact hw
    · exact h.lt u hu
  · rw [h.way, List.reverse_cons, List.map_append]; rfl
  · rw [Zab, h.lon]
    by_cases e : w = u
    · rw [if_pos ⟨e, hw⟩]; exact ⟨fun _ => e ▸ .head _, fun _ => rfl⟩
    · rw [if_neg (fun h => e h.1), h.on u hu]
      exact ⟨fun h => .tail _ h, fun h => by rcases List.mem_cons.1 h with h | h; (exact absurd h.symm e); exact h⟩
  · rcases List.mem_cons.1 hu with rfl | hu
    · exact hd
    · exact h.open_ u hu
  · rw [Z3n hvw, hw0]; intro j hj; simp at hj
  · have h1 : v ≠ u := fun e => hup (e ▸ .tail _ (.head _))
    rw [Z3n h1]; exact h.fresh u hu hdu (fun hm => hup (.tail _ hm))
theorem WI.fin {r v : Nat} {pv es : List Nat} {at_ : List Int} {dn on : List Bool} {way : List Int} (ho : OutIs n m f out) (h : WI n m f out r v pv es at_ dn on way) (hq : at_.getD v 0 = ((out.getD v []).length : Int)) :
    DI n m f out at_ (dn.set v true) := by
  have hv := h.lt v (.head _)
  have hdv := h.open_ v (.head _)
  obtain ⟨ρ, c, hρ⟩ := h.di.rank
  refine ⟨h.di.la, by rw [List.length_set]; exact h.di.ld, h.di.lo, fun x => if x = v then c else ρ x, c + 1, fun u hu hd => ?_⟩
  rw [Zab, h.di.ld] at hd
  by_cases e : v = u
  · subst e
    simp only [if_true]
    refine ⟨by omega, fun k hk hf hfr => ?_⟩
    obtain ⟨q, hq1, hq2⟩ := ho.in hv hk hf hfr
    have h1 := h.pst q (by rw [hq]; omega)
    rw [hq2, Int.toNat_natCast] at h1
    have h2 : (n.Arcs.getD k default).to.toNat ≠ v := fun e => by rw [e, hdv] at h1; cases h1
    have hlt : (n.Arcs.getD k default).to.toNat < m := by
      rcases Nat.lt_or_ge (n.Arcs.getD k default).to.toNat m with h3 | h3
      · exact h3
      · rw [List.getD_eq_getElem?_getD, List.getElem?_eq_none (by rw [h.di.ld]; exact h3)] at h1; cases h1
    rw [if_neg h2]
    exact ⟨by rw [Z3n (Ne.symm h2)]; exact h1, (hρ _ hlt h1).1⟩
  · rw [if_neg (fun h => e h.1)] at hd
    obtain ⟨h1, h2⟩ := hρ u hu hd
    simp only [if_neg (show ¬ u = v from fun h => e h.symm)]
    refine ⟨by omega, fun k hk hf hfr => ?_⟩
    obtain ⟨h3, h4⟩ := h2 k hk hf hfr
    have h5 : (n.Arcs.getD k default).to.toNat ≠ v := fun e => by rw [e, hdv] at h3; cases h3
    rw [if_neg h5]
    exact ⟨by rw [Z3n (Ne.symm h5)]; exact h3, h4⟩
theorem Zjg {dn : List Bool} {v : Nat} : ∀ x, dn.getD x false = true → (dn.set v true).getD x false = true := by
 intro x hx
 rw [Zab]; split
 · rfl
 · exact hx
theorem WI.pop {r v u e : Nat} {ps es : List Nat} {at_ : List Int} {dn on : List Bool} {way : List Int} (ho : OutIs n m f out) (h : WI n m f out r v (u :: ps) (e :: es) at_ dn on way) (hq : at_.getD v 0 = ((out.getD v []).length : Int)) :
    WI n m f out r u ps es at_ (dn.set v true) (on.set v false) (es.reverse.map fun e : Nat => (e : Int)) ∧ (n.Arcs.getD e default).fr = (u : Int) ∧ e < n.Arcs.length := by
  have hv := h.lt v (.head _)
  have hfin := h.fin ho hq
  have hnd := List.nodup_cons.1 h.nd
  cases h.ch with
  | step h1 h2 h3 h4 h5 h6 =>
  obtain ⟨q, q1, q2, q3⟩ := h5
  refine ⟨⟨hfin, h6.mono Zjg (fun _ _ => rfl), hnd.2, fun x hx => h.lt x (.tail _ hx), rfl, by rw [List.length_set]; exact h.lon, fun x hx => ?_, fun x hx => ?_, ?_, fun x hx hdx hup => ?_, ?_⟩, h3, h1⟩
  · rw [Zab, h.lon]
    by_cases e : v = x
    · subst e; rw [if_pos ⟨rfl, hv⟩]; exact ⟨fun h => (by cases h), fun hm => absurd hm hnd.1⟩
    · rw [if_neg (fun h => e h.1), h.on x hx]
      exact ⟨fun h => by rcases List.mem_cons.1 h with h | h; (exact absurd h.symm e); exact h, fun h => .tail _ h⟩
  · have h1 : v ≠ x := fun e => hnd.1 (by rw [e]; exact hx)
    rw [Z3n h1]; exact h.open_ x (.tail _ hx)
  · rw [q1, Int.toNat_natCast]
    intro j hj
    rcases Nat.lt_or_ge j q with h7 | h7
    · exact Zjg _ (q3 j h7)
    · rw [show j = q by omega, q2, Int.toNat_natCast, h4, Int.toNat_natCast]
      exact Z5s (by rw [h.di.ld]; exact hv)
  · have hxv : v ≠ x := fun e => by subst e; rw [Z5s (by rw [h.di.ld]; exact hv)] at hdx; cases hdx
    rw [Z3n hxv] at hdx
    exact h.fresh x hx hdx (fun hm => by rcases List.mem_cons.1 hm with h | h; (exact hxv h.symm); exact hup h)
  · obtain ⟨pre, e⟩ := h.root
    cases pre with
    | nil => simp at e
    | cons x pre => exact ⟨pre, by simpa using (List.cons.inj e).2⟩
theorem WI.last {r v : Nat} {at_ : List Int} {dn on : List Bool} {way : List Int} (ho : OutIs n m f out) (h : WI n m f out r v [] [] at_ dn on way) (hq : at_.getD v 0 = ((out.getD v []).length : Int)) :
    EI n m f out at_ (dn.set v true) (on.set v false) way ∧ (dn.set v true).getD r false = true := by
  have hv := h.lt v (.head _)
  have hrv : r = v := by
    obtain ⟨pre, e⟩ := h.root
    cases pre with
    | nil => simpa using e.symm
    | cons x pre => simp at e
  refine ⟨⟨h.fin ho hq, by rw [h.way]; rfl, by rw [List.length_set]; exact h.lon, fun u hu => ?_, fun u hu hd => ?_⟩, by rw [hrv]; exact Z5s (by rw [h.di.ld]; exact hv)⟩
  · rw [Zab, h.lon]
    by_cases e : v = u
    · rw [if_pos ⟨e, hv⟩]
    · rw [if_neg (fun h => e h.1), Bool.eq_false_iff]
      intro h1
      have := (h.on u hu).1 h1
      rw [List.mem_singleton] at this; exact e this.symm
  · have hxv : v ≠ u := fun e => by subst e; rw [Z5s (by rw [h.di.ld]; exact hv)] at hd; cases hd
    rw [Z3n hxv] at hd
    exact h.fresh u hu hd (by rw [List.mem_singleton]; exact fun e => hxv e.symm)
end dfs
end Go.Acq
namespace Go.Acq
open Go
set_option linter.unusedSimpArgs false
set_option linter.unusedVariables false
theorem appR {α : Type} {xs ys : List α} {i : Nat} {d : α} (h : xs.length ≤ i) : (xs ++ ys).getD i d = ys.getD (i - xs.length) d := by
 rw [List.getD_eq_getElem?_getD, List.getElem?_append_right h, ← List.getD_eq_getElem?_getD]
theorem appL {α : Type} {xs ys : List α} {i : Nat} {d : α} (h : i < xs.length) : (xs ++ ys).getD i d = xs.getD i d := by
 rw [List.getD_eq_getElem?_getD, List.getElem?_append_left h, ← List.getD_eq_getElem?_getD]
def smI : List Int → Int
  | [] => 0
  | x :: xs => x + smI xs
def cT : List Bool → Nat
  | [] => 0
  | b :: bs => (if b = true then 1 else 0) + cT bs
theorem Zgd : ∀ {xs : List Int} {i : Nat} {y : Int}, i < xs.length → smI (xs.set i y) = smI xs - xs.getD i 0 + y
 | [], i, y, h => by simp at h
 | x :: xs, 0, y, _ => by simp [smI]; omega
 | x :: xs, i + 1, y, h => by
  have := Zgd (xs := xs) (i := i) (y := y) (by simpa using h)
  simp only [List.set_cons_succ, smI, this, List.getD_cons_succ]; omega
theorem smI_le {B : Nat} : ∀ {xs : List Int}, (∀ i, i < xs.length → 0 ≤ xs.getD i 0 ∧ xs.getD i 0 ≤ B) → 0 ≤ smI xs ∧ smI xs ≤ (xs.length * B : Nat)
 | [], _ => by simp [smI]
 | x :: xs, h => by
  have h1 := smI_le (B := B) (xs := xs) (fun i hi => by have := h (i + 1) (by simpa using hi); simpa using this)
  have h2 := h 0 (by simp)
  simp only [List.getD_cons_zero] at h2
  simp only [smI, List.length_cons, Nat.add_mul, Nat.one_mul]
  omega
theorem cT_le : ∀ bs : List Bool, cT bs ≤ bs.length
 | [] => Nat.le_refl _
 | b :: bs => by have := cT_le bs; simp only [cT, List.length_cons]; split <;> omega
theorem cT_set : ∀ {bs : List Bool} {i : Nat}, i < bs.length → bs.getD i false = false → cT (bs.set i true) = cT bs + 1
 | [], i, h, _ => by simp at h
 | b :: bs, 0, _, h => by simp only [List.getD_cons_zero] at h; subst h; simp [cT]; omega
 | b :: bs, i + 1, h, hb => by
  have := cT_set (bs := bs) (i := i) (by simpa using h) (by simpa using hb)
  simp only [List.set_cons_succ, cT, this]; omega
section
variable {n : Net} {m : Nat} {f : List Int} {out : List (List Int)}
theorem s_closes {way at_ : List Int} {dn on : List Bool} {w : Int} {k : Int} (hl : way.length ≤ 4096) (hin : ∀ j, j < (way ++ [k]).length → ∃ a : Nat, (way ++ [k]).getD j 0 = a ∧ a < n.Arcs.length)
    (hex : ∃ j, j < (way ++ [k]).length ∧ (n.Arcs.getD ((way ++ [k]).getD j 0).toNat default).fr = w) :
    Ok (Z2q (CyclesSearch.mk n out at_ dn on way) w k) (fun c => ∃ i, i < (way ++ [k]).length ∧ c = (way ++ [k]).drop i ∧ (n.Arcs.getD ((way ++ [k]).getD i 0).toNat default).fr = w) := by
  have hl2 : (way ++ [k]).length = way.length + 1 := by simp
  unfold Z2q
  have hc : Z3s way = some way := by
    refine Zge ?_
    unfold Z3s
    exact Ok.gd.2 ⟨by constructor <;> omega, Ok.some.2 rfl⟩
  refine Ok.bind.2 (Zbf hc (Ok.gd.2 ⟨by rw [hl2]; constructor <;> omega, Ok.bind.2 ?_⟩))
  generalize hws : way ++ [k] = ws at *
  unfold Z1b
  refine Ok.bind.2 (Z86 (fun x => ∃ i : Nat, x = i ∧ i ≤ ws.length ∧ ∀ j, j < i → (n.Arcs.getD (ws.getD j 0).toNat default).fr ≠ w) (fun x => (ws.length - x).toNat) ⟨0, rfl, by omega, fun j hj => by omega⟩ (by unfold Z40; omega) ?_)
  rintro x ⟨i, rfl, hi, hno⟩ P next exit
  unfold Z0x
  simp only [Int.toNat_natCast]
  refine Ok.ite.2 ⟨fun hx => ?_, fun hx => ?_⟩
  · obtain ⟨a, ha, hal⟩ := hin i (by omega)
    refine Ok.gd.2 ⟨(by constructor <;> omega), Ok.bind.2 ?_⟩
    unfold Z31
    rw [ha]
    refine Ok.gd.2 ⟨by show inb (a : Int) n.Arcs.length; constructor <;> omega, Ok.some.2 ?_⟩
    simp only [Int.toNat_natCast]
    refine Ok.ite.2 ⟨fun h => Ok.some.2 (exit _ ?_), fun h => Ok.gd.2 ⟨(by constructor <;> omega), Ok.some.2 (next _ ⟨i + 1, by simp, by omega, fun j hj => ?_⟩ (by omega))⟩⟩
    · have h := of_decide_eq_true h
      refine Ok.some.2 (Ok.gd.2 ⟨(by constructor <;> omega), Ok.some.2 ?_⟩)
      rw [Int.toNat_natCast]
      exact ⟨i, by omega, rfl, by rw [ha, Int.toNat_natCast]; exact h⟩
    · rcases Nat.lt_or_ge j i with h1 | h1
      · exact hno j h1
      · rw [show j = i by omega, ha, Int.toNat_natCast]; exact fun e => h (decide_eq_true e)
  · obtain ⟨j, hj, e⟩ := hex
    exact absurd e (hno j (by omega))
theorem WI.cyc {r v k w i : Nat} {pv es : List Nat} {at_ : List Int} {dn on : List Bool} {way : List Int} (h : WI n m f out r v pv es at_ dn on way) (hkl : k < n.Arcs.length) (hf : 0 < f.getD k 0) (hfr : (n.Arcs.getD k default).fr = (v : Int)) (hto : (n.Arcs.getD k default).to = (w : Int)) (hw : w < m) (hon : on.getD w false = true) :
    (∀ j, j < (way ++ [(k : Int)]).length → ∃ a : Nat, (way ++ [(k : Int)]).getD j 0 = a ∧ a < n.Arcs.length) ∧
    (∃ j, j < (way ++ [(k : Int)]).length ∧ (n.Arcs.getD ((way ++ [(k : Int)]).getD j 0).toNat default).fr = (w : Int)) ∧
    (i < (way ++ [(k : Int)]).length → (n.Arcs.getD ((way ++ [(k : Int)]).getD i 0).toNat default).fr = (w : Int) → Cyc n f ((way ++ [(k : Int)]).drop i)) := by
  have hlen := h.ch.len
  simp only [List.length_cons] at hlen
  have hat := h.ch.at
  have hwl : way.length = es.length := by rw [h.way]; simp
  have hwsl : (way ++ [(k : Int)]).length = es.length + 1 := by simp [hwl]
  have key : ∀ j, j < es.length + 1 → ∃ a : Nat, (way ++ [(k : Int)]).getD j 0 = a ∧ a < n.Arcs.length ∧ 0 < f.getD a 0 ∧ (n.Arcs.getD a default).fr = ((v :: pv).getD (es.length - j) 0 : Int) ∧ (n.Arcs.getD a default).to = (if j = es.length then (w : Int) else ((v :: pv).getD (es.length - (j + 1)) 0 : Int)) := by
    intro j hj
    by_cases e : j = es.length
    · refine ⟨k, by rw [appR (by omega), hwl, e]; simp, hkl, hf, ?_, by rw [if_pos e]; exact hto⟩
      rw [e, Nat.sub_self]; exact hfr
    · obtain ⟨h1, h2, h3, h4⟩ := hat (es.length - (j + 1)) (by omega)
      refine ⟨es.getD (es.length - (j + 1)) 0, ?_, h1, h2, ?_, by rw [if_neg e]; exact h4⟩
      · rw [appL (by omega), h.way, List.getD_eq_getElem?_getD, List.getElem?_map, List.getElem?_reverse (by omega), List.getD_eq_getElem?_getD, show es.length - 1 - j = es.length - (j + 1) by omega, List.getElem?_eq_getElem (by omega)]
        rfl
      · rw [h3, show es.length - (j + 1) + 1 = es.length - j by omega]
  have hinj : ∀ a b, a < es.length + 1 → b < es.length + 1 → (v :: pv).getD a 0 = (v :: pv).getD b 0 → a = b := by
    intro a b ha hb e
    have hl : (v :: pv).length = es.length + 1 := by simp [hlen]
    rw [List.getD_eq_getElem?_getD, List.getD_eq_getElem?_getD, List.getElem?_eq_getElem (by omega), List.getElem?_eq_getElem (by omega)] at e
    exact (List.getElem_inj h.nd).1 e
  refine ⟨fun j hj => ?_, ?_, fun hi hfi => ?_⟩
  · obtain ⟨a, h1, h2, -⟩ := key j (by omega)
    exact ⟨a, h1, h2⟩
  · obtain ⟨p, hp, e⟩ := List.getElem_of_mem ((h.on w hw).1 hon)
    have hp2 : p < es.length + 1 := by simp at hp; omega
    refine ⟨es.length - p, by omega, ?_⟩
    obtain ⟨a, h1, h2, h3, h4, -⟩ := key (es.length - p) (by omega)
    rw [h1, Int.toNat_natCast, h4, show es.length - (es.length - p) = p by omega, List.getD_eq_getElem?_getD, List.getElem?_eq_getElem hp, e]; rfl
  · have hdl : ((way ++ [(k : Int)]).drop i).length = es.length + 1 - i := by rw [List.length_drop, hwsl]
    have hdg : ∀ j, ((way ++ [(k : Int)]).drop i).getD j 0 = (way ++ [(k : Int)]).getD (i + j) 0 := fun j => by
      rw [List.getD_eq_getElem?_getD, List.getElem?_drop, ← List.getD_eq_getElem?_getD]
    refine ⟨by omega, fun j hj => ?_, fun a b ha hb e => ?_⟩
    · rw [hdl] at hj ⊢
      obtain ⟨a, h1, h2, h3, h4, h5⟩ := key (i + j) (by omega)
      refine ⟨a, by rw [hdg]; exact h1, h2, h3, ?_⟩
      rw [h5, hdg]
      by_cases hj2 : j + 1 = es.length + 1 - i
      · rw [if_pos (by omega), hj2, Nat.mod_self, Nat.add_zero]; exact hfi.symm
      · rw [if_neg (by omega), Nat.mod_eq_of_lt (by omega)]
        obtain ⟨b, g1, g2, g3, g4, -⟩ := key (i + (j + 1)) (by omega)
        rw [g1, Int.toNat_natCast, g4]
        congr 2
    · rw [hdl] at ha hb
      rw [hdg, hdg] at e
      obtain ⟨x, h1, h2, h3, h4, -⟩ := key (i + a) (by omega)
      obtain ⟨y, g1, g2, g3, g4, -⟩ := key (i + b) (by omega)
      rw [h1, g1, Int.toNat_natCast, Int.toNat_natCast, h4, g4] at e
      have := hinj _ _ (by omega) (by omega) (Int.natCast_inj.1 e)
      omega
end
end Go.Acq
namespace Go.Acq
open Go
set_option linter.unusedSimpArgs false
set_option linter.unusedVariables false
section
variable {n : Net} {m : Nat} {f : List Int} {out : List (List Int)}
theorem DI.sm {at_ : List Int} {dn : List Bool} (ho : OutIs n m f out) (h : DI n m f out at_ dn) : 0 ≤ smI at_ ∧ smI at_ ≤ ((m * n.Arcs.length : Nat) : Int) := by
 have := smI_le (B := n.Arcs.length) (xs := at_) (fun i hi => by
  rw [h.la] at hi
  have h1 := h.lo i hi
  have h2 := ho.len hi
  omega)
 rw [h.la] at this
 exact this
theorem s_inner {A : List Int} {D O : List Bool} {W : List Int} (hm2 : m ≤ 4096) (hl : n.Arcs.length ≤ 16384) (he : Z5b m n.Arcs) (ho : OutIs n m f out) {r v : Nat} {pv es : List Nat} {at0 : List Int} {dn on : List Bool} {way : List Int} (h : WI n m f out r v pv es at0 dn on way) :
    Ok (Z20 (fun s => Z1z (CyclesSearch.mk n out A D O W) (v : Int) dn on way s) Z40 at0) (fun o => match o with
      | .inl (c, _) => Cyc n f c
      | .inr (.inl (w, at', dn', on', way')) => ∃ w' k : Nat, w = w' ∧ dn' = dn ∧ WI n m f out r w' (v :: pv) (k :: es) at' dn on' way' ∧ smI at0 < smI at'
      | .inr (.inr at') => WI n m f out r v pv es at' dn on way ∧ at'.getD v 0 = ((out.getD v []).length : Int) ∧ smI at0 ≤ smI at') := by
  have hv := h.lt v (.head _)
  have hlo := ho.len hv
  have h1 := h.ch.len
  have hwl : way.length = es.length := by rw [h.way]; simp
  have hpl : es.length + 1 ≤ m := by
    have := List.Nodup.length_le_of_subset h.nd (l₂ := List.range m) (fun u hu => List.mem_range.2 (h.lt u hu))
    rw [h1, List.length_range] at this; exact this
  refine Z86 (fun a => WI n m f out r v pv es a dn on way ∧ smI at0 ≤ smI a) (fun a => ((out.getD v []).length - a.getD v 0).toNat) ⟨h, Int.le_refl _⟩ (by
    have := (h.di.lo v hv).1
    unfold Z40; omega) ?_
  rintro a ⟨hW, hs⟩ P next exit
  unfold Z1z
  have hal := hW.di.la
  have hdl := hW.di.ld
  have hol := hW.lon
  have hoo := ho.1
  obtain ⟨q, hq⟩ : ∃ q : Nat, a.getD v 0 = (q : Int) := ⟨(a.getD v 0).toNat, (Int.toNat_of_nonneg (hW.di.lo v hv).1).symm⟩
  simp only [Int.toNat_natCast, hq]
  refine Ok.gd.2 ⟨(by constructor <;> omega), Ok.gd.2 ⟨(by constructor <;> omega), Ok.ite.2 ⟨fun hx => ?_, fun hx => ?_⟩⟩⟩
  · have hql : q < (out.getD v []).length := by omega
    obtain ⟨k, hk, hkl, hf, hfr⟩ := ho.at hv hql
    have e1 := he k hkl true
    simp only [vtx, if_true] at e1
    obtain ⟨w, hto⟩ : ∃ w : Nat, (n.Arcs.getD k default).to = (w : Int) := ⟨(n.Arcs.getD k default).to.toNat, by omega⟩
    have hw : w < m := by omega
    simp only [hk, hto, Int.toNat_natCast]
    refine Ok.gd.2 ⟨(by constructor <;> omega), Ok.gd.2 ⟨(by constructor <;> omega), Ok.gd.2 ⟨(by constructor <;> omega), Ok.gd.2 ⟨(by constructor <;> omega), Ok.gd.2 ⟨(by constructor <;> omega), Ok.gd.2 ⟨(by constructor <;> omega), Ok.gd.2 ⟨(by constructor <;> omega), Ok.gd.2 ⟨(by constructor <;> omega), Ok.ite.2 ⟨fun hon => ?_, fun hon => Ok.gd.2 ⟨(by constructor <;> omega), Ok.ite.2 ⟨fun hd => ?_, fun hd => ?_⟩⟩⟩⟩⟩⟩⟩⟩⟩⟩⟩
    · obtain ⟨c1, c2, c3⟩ := hW.cyc (i := 0) hkl hf hfr hto hw hon
      refine Ok.bind.2 (Ok.mono (s_closes (by omega) c1 c2) ?_)
      rintro c ⟨i, hi, rfl, hfi⟩
      exact Ok.some.2 (exit _ ((hW.cyc (i := i) hkl hf hfr hto hw hon).2.2 hi hfi))
    · have hdw : dn.getD w false = false := by simpa using hd
      have hp := hW.push hq hql hk hkl hf hfr hto hw (Bool.eq_false_iff.2 hon) hdw
      refine Ok.gd.2 ⟨by simp only [List.length_append, List.length_singleton]; constructor <;> omega, Ok.gd.2 ⟨(by constructor <;> omega), Ok.some.2 (exit _ ⟨w, k, rfl, rfl, hp, ?_⟩)⟩⟩
      rw [Zgd (by omega), hq]; omega
    · have hdw : dn.getD w false = true := by simpa using hd
      have hp := hW.skip hq hql (by rw [hk, Int.toNat_natCast, hto, Int.toNat_natCast]; exact hdw)
      refine Ok.some.2 (next _ ⟨hp, ?_⟩ ?_)
      · rw [Zgd (by omega), hq]; omega
      · rw [Z5s (by omega), hq]; omega
  · have := hW.di.lo v hv
    exact Ok.some.2 (exit _ ⟨hW, by omega, hs⟩)
theorem s_from (hm2 : m ≤ 4096) (hl : n.Arcs.length ≤ 16384) (he : Z5b m n.Arcs) (ho : OutIs n m f out) {v : Nat} {at0 : List Int} {dn0 on0 : List Bool} {way0 : List Int} (h : EI n m f out at0 dn0 on0 way0) (hv : v < m) (hd : dn0.getD v false = false) :
    Ok (Z36 (CyclesSearch.mk n out at0 dn0 on0 way0) v) (fun r => Cyc n f r.1 ∨ (r.1 = [] ∧ ∃ at' dn' on', r.2 = CyclesSearch.mk n out at' dn' on' [] ∧ EI n m f out at' dn' on' [] ∧ dn'.getD v false = true ∧ ∀ u, dn0.getD u false = true → dn'.getD u false = true)) := by
  have hlon := h.lon
  have hML : m * n.Arcs.length ≤ 4096 * 16384 := Nat.mul_le_mul hm2 hl
  unfold Z36
  refine Ok.gd.2 ⟨by show inb (v : Int) on0.length; constructor <;> omega, Ok.bind.2 ?_⟩
  simp only [Int.toNat_natCast]
  refine Z86 (fun s => (∀ u, dn0.getD u false = true → s.2.2.1.getD u false = true) ∧ ((∃ (w : Nat) (pv es : List Nat), s.1 = w ∧ WI n m f out v w pv es s.2.1 s.2.2.1 s.2.2.2.1 s.2.2.2.2) ∨ (s.1 = -1 ∧ EI n m f out s.2.1 s.2.2.1 s.2.2.2.1 s.2.2.2.2 ∧ s.2.2.1.getD v false = true)))
    (fun s => (((m * n.Arcs.length : Nat) : Int) - smI s.2.1).toNat + (m - cT s.2.2.1)) ⟨fun u hu => hu, .inl ⟨v, [], [], rfl, WI.begin h hv hd⟩⟩ (by
      have := h.di.sm ho
      unfold Z40; simp only; omega) ?_
  rintro ⟨x, a, dn, on, way⟩ ⟨hmo, hI⟩ P next exit
  simp only at hmo hI next ⊢
  unfold Z2g
  rcases hI with ⟨w, pv, es, rfl, hW⟩ | ⟨rfl, hE, hdv⟩
  · refine Ok.ite.2 ⟨fun _ => ?_, fun hx => absurd (Int.natCast_nonneg w) hx⟩
    refine Ok.bind.2 (Ok.mono (s_inner hm2 hl he ho hW) ?_)
    have hsm := hW.di.sm ho
    rintro (⟨c, st⟩ | ⟨w2, at', dn', on', way'⟩ | at') hr
    · exact Ok.some.2 (exit _ (Ok.some.2 (.inl hr)))
    · obtain ⟨w', k, rfl, rfl, hW', hlt⟩ := hr
      have hsm' := hW'.di.sm ho
      exact Ok.some.2 (next _ ⟨hmo, .inl ⟨w', w :: pv, k :: es, rfl, hW'⟩⟩ (by simp only; omega))
    · obtain ⟨hW', hfull, hle⟩ := hr
      have hsm' := hW'.di.sm ho
      have hwm := hW'.lt w (.head _)
      have hdw := hW'.open_ w (.head _)
      have hdl := hW'.di.ld
      have hol := hW'.lon
      have hcs := cT_set (bs := dn) (i := w) (by omega) hdw
      have hcl := cT_le (dn.set w true)
      rw [List.length_set, hdl] at hcl
      have hmo' : ∀ u, dn0.getD u false = true → (dn.set w true).getD u false = true := fun u hu => Zjg u (hmo u hu)
      have hway := hW'.way
      have hch := hW'.ch.len
      unfold Z3b Z3l
      simp only [Int.toNat_natCast]
      cases es with
      | nil =>
        have hpv : pv = [] := by simpa using hch
        subst hpv
        obtain ⟨hE, hdr⟩ := hW'.last ho hfull
        refine Ok.bind.2 (Ok.gd.2 ⟨(by constructor <;> omega), Ok.gd.2 ⟨(by constructor <;> omega), Ok.ite.2 ⟨fun _ => Ok.some.2 ?_, fun hx => absurd (by rw [hway]; rfl) hx⟩⟩⟩)
        exact Ok.some.2 (next _ ⟨hmo', .inr ⟨rfl, hE, hdr⟩⟩ (by simp only; omega))
      | cons e es =>
        cases pv with
        | nil => simp at hch
        | cons u ps =>
          obtain ⟨hW2, hfr, hel⟩ := hW'.pop ho hfull
          have hwl : way.length = es.length + 1 := by rw [hway]; simp
          have hpl := List.Nodup.length_le_of_subset hW'.nd (l₂ := List.range m) (fun u hu => List.mem_range.2 (hW'.lt u hu))
          rw [hch, List.length_range, List.length_cons] at hpl
          have hlast : way.getD es.length 0 = (e : Int) := by
            rw [hway, List.getD_eq_getElem?_getD, List.getElem?_map, List.reverse_cons, List.getElem?_append_right (by simp)]
            simp
          have htake : way.take es.length = es.reverse.map fun e : Nat => (e : Int) := by
            rw [hway, List.reverse_cons, List.map_append, List.take_left' (by simp)]
          have hi : ((way.length : Int) - 1).toNat = es.length := by omega
          refine Ok.bind.2 (Ok.gd.2 ⟨(by constructor <;> omega), Ok.gd.2 ⟨(by constructor <;> omega), Ok.ite.2 ⟨fun hx => absurd hx (by omega), fun _ => ?_⟩⟩⟩)
          simp only [hi, hlast, Int.toNat_natCast, htake, hfr]
          refine Ok.gd.2 ⟨(by constructor <;> omega), Ok.gd.2 ⟨(by constructor <;> omega), Ok.gd.2 ⟨(by constructor <;> omega), Ok.gd.2 ⟨(by constructor <;> omega), Ok.gd.2 ⟨by show inb (e : Int) n.Arcs.length; constructor <;> omega, Ok.some.2 ?_⟩⟩⟩⟩⟩
          exact Ok.some.2 (next _ ⟨hmo', .inl ⟨u, ps, es, rfl, hW2⟩⟩ (by simp only; omega))
  · refine Ok.ite.2 ⟨fun hx => absurd hx (by omega), fun _ => Ok.some.2 (exit _ ?_)⟩
    unfold Z3a
    have := hE.way
    subst this
    exact Ok.some.2 (.inr ⟨rfl, a, dn, on, rfl, hE, hdv, hmo⟩)
theorem s_first (hm : n.N = m) (hm2 : m ≤ 4096) (hl : n.Arcs.length ≤ 16384) (he : Z5b m n.Arcs) (hf : f.length = n.Arcs.length) :
    Ok (Z4u n f) (fun r => Cyc n f r ∨ (r = [] ∧ Acyc n f)) := by
  unfold Z4u
  refine Ok.bind.2 (Ok.mono (Zj2 hm hm2 he hl hf) ?_)
  rintro s ⟨out, rfl, ho⟩
  simp only
  refine Ok.bind.2 (Z86 (fun s => ∃ k : Nat, s.2.2.2.2 = k ∧ k ≤ m ∧ EI n m f out s.1 s.2.1 s.2.2.1 s.2.2.2.1 ∧ ∀ u, u < k → s.2.1.getD u false = true) (fun s => (m - s.2.2.2.2).toNat)
    ⟨0, rfl, by omega, ⟨⟨List.length_replicate, List.length_replicate, fun u hu => by rw [Z1x]; omega, fun _ => 0, 0, fun u hu hd => (by rw [Z1x] at hd; cases hd)⟩, rfl, List.length_replicate, fun u _ => Z1x .., fun u _ _ => Z1x ..⟩, fun u hu => by omega⟩ (by unfold Z40; simp only; omega) ?_)
  rintro ⟨a, dn, on, way, x⟩ ⟨k, h1, hk, hE, hdn⟩ P next exit
  simp only at h1 hE hdn next ⊢
  subst h1
  have hdl := hE.di.ld
  unfold Z49
  simp only [Int.toNat_natCast]
  refine Ok.ite.2 ⟨fun hx => ?_, fun hx => ?_⟩
  · refine Ok.gd.2 ⟨(by constructor <;> omega), Ok.ite.2 ⟨fun hd => ?_, fun hd => ?_⟩⟩
    · refine Ok.gd.2 ⟨(by constructor <;> omega), Ok.some.2 (next _ ⟨k + 1, by simp, by omega, hE, fun u hu => ?_⟩ (by simp only; omega))⟩
      rcases Nat.lt_or_ge u k with h | h
      · exact hdn u h
      · rw [show u = k by omega]; exact hd
    · have hw := hE.way
      subst hw
      refine Ok.bind.2 (Ok.mono (s_from (v := k) hm2 hl he ho hE (by omega) (Bool.eq_false_iff.2 hd)) ?_)
      rintro ⟨c, st⟩ (hc | ⟨h1, a', dn', on', h2, hE', hd', hmo⟩)
      · simp only at hc ⊢
        exact Ok.ite.2 ⟨fun _ => Ok.some.2 (exit _ (Ok.some.2 (.inl hc))), fun h => absurd (by have := hc.1; omega) h⟩
      · simp only at h1 h2 ⊢
        subst h1; subst h2
        refine Ok.ite.2 ⟨fun h => absurd h (by simp), fun _ => Ok.gd.2 ⟨(by constructor <;> omega), Ok.some.2 (next _ ⟨k + 1, by simp, by omega, hE', fun u hu => ?_⟩ (by simp only; omega))⟩⟩
        rcases Nat.lt_or_ge u k with h | h
        · exact hmo u (hdn u h)
        · rw [show u = k by omega]; exact hd'
  · refine Ok.some.2 (exit _ ?_)
    unfold Z5h
    refine Ok.some.2 (.inr ⟨rfl, ?_⟩)
    obtain ⟨ρ, c, hρ⟩ := hE.di.rank
    refine ⟨ρ, fun j hj hfj => ?_⟩
    have e0 := he j hj false
    simp only [vtx, Bool.false_eq_true, if_false] at e0
    have hu : (n.Arcs.getD j default).fr.toNat < m := by omega
    exact ((hρ _ hu (hdn _ (by omega))).2 j hj hfj (by omega)).2
theorem FwithinP.vert {n : Net} {f : List Int} (h : FwithinP n f) : ∃ m : Nat, n.N = m ∧ 2 ≤ m ∧ m ≤ 4096 ∧ n.Arcs.length ≤ 16384 ∧ Z5b m n.Arcs ∧ f.length = n.Arcs.length := by
 have hz := Z2s h.1
 obtain ⟨m, hm⟩ : ∃ m : Nat, n.N = m := ⟨n.N.toNat, by omega⟩
 exact ⟨m, hm, by omega, by omega, by omega, Zcj (by rw [← hm]; exact hz.2.2.2.1), h.2.1⟩
end
end Go.Acq
namespace Go.Acq
open Go
set_option linter.unusedSimpArgs false
set_option linter.unusedVariables false
def Zav (al : List Arc) (f : List Int) (rem : Nat → Bool) (w : Nat) : Nat → Nat
  | 0 => 0
  | k + 1 => Zav al f rem w k + (if 0 < f.getD k 0 ∧ (al.getD k default).to = (w : Int) ∧ rem k = false then 1 else 0)
theorem Zev {al : List Arc} {f : List Int} {rem : Nat → Bool} {w : Nat} : ∀ k, Zav al f rem w k ≤ k
 | 0 => Nat.le_refl _
 | k + 1 => by have := Zev (al := al) (f := f) (rem := rem) (w := w) k; simp only [Zav]; split <;> omega
theorem Zai {al : List Arc} {f : List Int} {rem rem' : Nat → Bool} {w : Nat} : ∀ {K : Nat}, (∀ k, k < K → 0 < f.getD k 0 → rem' k = rem k) → Zav al f rem' w K = Zav al f rem w K
 | 0, _ => rfl
 | K + 1, h => by
  simp only [Zav]
  rw [Zai (K := K) fun k hk => h k (by omega)]
  by_cases hf : 0 < f.getD K 0
  · rw [h K (by omega) hf]
  · rw [if_neg (fun h => hf h.1), if_neg (fun h => hf h.1)]
theorem Zbg {al : List Arc} {f : List Int} {rem rem' : Nat → Bool} {w k0 : Nat} : ∀ {K : Nat}, k0 < K → 0 < f.getD k0 0 → rem k0 = true → rem' k0 = false → (∀ k, k < K → k ≠ k0 → 0 < f.getD k 0 → rem' k = rem k) →
    Zav al f rem' w K = Zav al f rem w K + if (al.getD k0 default).to = (w : Int) then 1 else 0
  | 0, h, _, _, _, _ => by omega
  | K + 1, h, hf, h1, h2, h3 => by
    simp only [Zav]
    by_cases e : k0 = K
    · subst e
      have e0 : (if 0 < f.getD k0 0 ∧ (al.getD k0 default).to = (w : Int) ∧ rem k0 = false then 1 else 0) = 0 := if_neg (fun h => (by rw [h1] at h; cases h.2.2))
      rw [Zai (K := k0) (rem := rem) fun k hk => h3 k (by omega) (by omega), e0]
      by_cases hw : (al.getD k0 default).to = (w : Int)
      · rw [if_pos ⟨hf, hw, h2⟩, if_pos hw]
      · rw [if_neg (fun h => hw h.2.1), if_neg hw]
    · rw [Zbg (K := K) (by omega) hf h1 h2 fun k hk => h3 k (by omega)]
      by_cases hfK : 0 < f.getD K 0
      · rw [h3 K (by omega) (fun h => e h.symm) hfK]; omega
      · have e1 : ∀ b : Bool, (if 0 < f.getD K 0 ∧ (al.getD K default).to = (w : Int) ∧ b = false then 1 else 0) = 0 := fun b => if_neg (fun h => hfK h.1)
        rw [e1, e1]; omega
theorem cntIn_zero {al : List Arc} {f : List Int} {rem : Nat → Bool} {w : Nat} : ∀ {K : Nat}, Zav al f rem w K = 0 ↔ ∀ k, k < K → 0 < f.getD k 0 → (al.getD k default).to = (w : Int) → rem k = true
 | 0 => ⟨fun _ k hk => by omega, fun _ => rfl⟩
 | K + 1 => by
  have ih := cntIn_zero (al := al) (f := f) (rem := rem) (w := w) (K := K)
  simp only [Zav]
  constructor
  ·
   intro h k hk hf ht
   by_cases e : k = K
   ·
    subst e
    cases hr : rem k with
    | true => rfl
    | false => rw [if_pos ⟨hf, ht, hr⟩] at h; omega
   · exact ih.1 (by omega) k (by omega) hf ht
  ·
   intro h
   rw [ih.2 fun k hk => h k (by omega), if_neg (fun g => by have := h K (by omega) g.1 g.2.1; rw [this] at g; cases g.2.2)]
theorem s_BinS {xs : List Int} {w : Int} (hl : xs.length ≤ 1000000000) : Ok (Z2b xs w) (fun r => 0 ≤ r.1 ∧ r.1 ≤ (xs.length : Int)) := by
 unfold Z2b
 refine Ok.bind.2 (Z86 (fun s => 0 ≤ s.1 ∧ s.1 ≤ s.2 ∧ s.2 ≤ (xs.length : Int)) (fun s => (s.2 - s.1).toNat) ⟨by simp, by simp, by simp⟩ (by unfold Z40; simp only; omega) ?_)
 rintro ⟨i, j⟩ ⟨h1, h2, h3⟩ P next exit
 simp only at h1 h2 h3 next ⊢
 unfold Z1q
 have hless : ∀ x y : Int, ∃ b, Z5u x y = some b := fun x y => by
  unfold Z5u Z58
  simp [Option.bind]
 have hh : i < j → i ≤ Int.fdiv (i + j) (2 ^ 1) ∧ Int.fdiv (i + j) (2 ^ 1) < j := fun h => by
  rw [Int.fdiv_eq_ediv_of_nonneg _ (by omega)]
  omega
 refine Ok.ite.2 ⟨fun hx => ?_, fun hx => Ok.some.2 (exit _ ?_)⟩
 ·
  obtain ⟨g1, g2⟩ := hh hx
  obtain ⟨b, hb⟩ := hless (xs.getD (Int.fdiv (i + j) (2 ^ 1)).toNat 0) w
  refine Ok.gd.2 ⟨(by constructor <;> omega), Ok.gd.2 ⟨by constructor <;> omega, Ok.gd.2 ⟨(by constructor <;> omega), Ok.gd.2 ⟨(by constructor <;> omega), Ok.bind.2 (Zbf hb (Ok.ite.2 ⟨fun _ => Ok.gd.2 ⟨(by constructor <;> omega), Ok.some.2 (next _ ⟨by simp only; omega, by simp only; omega, h3⟩ (by simp only; omega))⟩, fun _ => Ok.some.2 (next _ ⟨h1, g1, by simp only; omega⟩ (by simp only; omega))⟩))⟩⟩⟩⟩
 ·
  unfold Z2d
  have e : i = j := by omega
  refine Ok.ite.2 ⟨fun hy => Ok.gd.2 ⟨(by constructor <;> omega), Ok.ite.2 ⟨fun _ => Ok.some.2 ⟨h1, by simp only; omega⟩, fun _ => Ok.gd.2 ⟨(by constructor <;> omega), ?_⟩⟩⟩, fun _ => Ok.some.2 ⟨h1, by simp only; omega⟩⟩
  unfold Z3q
  refine Ok.bind.2 (Ok.some.2 (Ok.ite.2 ⟨fun h => absurd h (by simp), fun _ => Ok.some.2 ⟨h1, by simp only; omega⟩⟩))
section
variable {n : Net} {m : Nat} {f : List Int} {out : List (List Int)}
def CntP (n : Net) (m : Nat) (f : List Int) (left : List Int) (rem : Nat → Bool) : Prop := left.length = m ∧ ∀ w, w < m → left.getD w 0 = (Zav n.Arcs f rem w n.Arcs.length : Nat)
theorem s_count (hm2 : m ≤ 4096) (hl : n.Arcs.length ≤ 16384) (he : Z5b m n.Arcs) (ho : OutIs n m f out) {A : List Int} {D O : List Bool} {W : List Int} :
    Ok (Z20 (fun s => Z3g n (CyclesSearch.mk n out A D O W) s.1 s.2) Z40 (List.replicate m (0 : Int), 0)) (fun left => CntP n m f left fun _ => false) := by
  have hoo := ho.1
  refine Z86 (fun s => ∃ x : Nat, s.2 = x ∧ x ≤ m ∧ ∃ rem, CntP n m f s.1 rem ∧ ∀ k, k < n.Arcs.length → 0 < f.getD k 0 → (rem k = false ↔ (n.Arcs.getD k default).fr < (x : Int))) (fun s => (m - s.2).toNat)
    ⟨0, rfl, by omega, fun _ => true, ⟨List.length_replicate, fun w hw => by rw [Z1x, cntIn_zero.2 (fun _ _ _ _ => rfl)]; rfl⟩, fun k hk _ => by
      have := he k hk false
      simp only [vtx, Bool.false_eq_true, if_false] at this
      exact ⟨fun h => (by cases h), fun h => by omega⟩⟩ (by unfold Z40; simp only; omega) ?_
  rintro ⟨left, x'⟩ ⟨x, h1, hx, rem, ⟨hll, hc⟩, hrem⟩ P next exit
  simp only at h1 hll hc next ⊢
  subst h1
  unfold Z3g
  simp only [Int.toNat_natCast]
  refine Ok.ite.2 ⟨fun hlt => ?_, fun hge => Ok.some.2 (exit _ ⟨hll, fun w hw => ?_⟩)⟩
  · have hxm : x < m := by omega
    have hlo := ho.len hxm
    have hnd : (out.getD x []).Nodup := by rw [ho.2 x hxm]; exact Zbd _
    refine Ok.gd.2 ⟨(by constructor <;> omega), Ok.bind.2 ?_⟩
    refine Z86 (fun s => ∃ q : Nat, s.2 = q ∧ q ≤ (out.getD x []).length ∧ ∃ rem, CntP n m f s.1 rem ∧ ∀ k, k < n.Arcs.length → 0 < f.getD k 0 → (rem k = false ↔ (n.Arcs.getD k default).fr < (x : Int) ∨ ∃ p, p < q ∧ (out.getD x []).getD p 0 = (k : Int))) (fun s => ((out.getD x []).length - s.2).toNat)
      ⟨0, rfl, by omega, rem, ⟨hll, hc⟩, fun k hk hf => ⟨fun h => .inl ((hrem k hk hf).1 h), fun h => by rcases h with h | ⟨p, hp, -⟩; (exact (hrem k hk hf).2 h); omega⟩⟩ (by unfold Z40; simp only; omega) ?_
    rintro ⟨left, y⟩ ⟨q, h1, hq, rem, ⟨hll, hc⟩, hrem⟩ P' next' exit'
    simp only at h1 hll hc next' ⊢
    subst h1
    unfold Z4c
    simp only [Int.toNat_natCast]
    refine Ok.ite.2 ⟨fun hy => ?_, fun hy => Ok.some.2 (exit' _ ?_)⟩
    · have hql : q < (out.getD x []).length := by omega
      obtain ⟨k, hk, hkl, hf, hfr⟩ := ho.at hxm hql
      have e1 := he k hkl true
      simp only [vtx, if_true] at e1
      obtain ⟨w, hto⟩ : ∃ w : Nat, (n.Arcs.getD k default).to = (w : Int) := ⟨(n.Arcs.getD k default).to.toNat, by omega⟩
      have hw : w < m := by omega
      have hcw := hc w hw
      have hcl := Zev (al := n.Arcs) (f := f) (rem := rem) (w := w) n.Arcs.length
      have hrk : rem k = true := by
        cases h : rem k with
        | true => rfl
        | false =>
          rcases (hrem k hkl hf).1 h with h2 | ⟨p, hp, h2⟩
          · omega
          · have e : p = q := by
              have g1 : (out.getD x [])[p]'(by omega) = (out.getD x [])[q] := by
                rw [List.getD_eq_getElem?_getD, List.getElem?_eq_getElem (by omega)] at h2 hk
                exact h2.trans hk.symm
              exact (List.getElem_inj hnd).1 g1
            omega
      simp only [hk, hto, Int.toNat_natCast, hcw]
      refine Ok.gd.2 ⟨(by constructor <;> omega), Ok.gd.2 ⟨(by constructor <;> omega), Ok.gd.2 ⟨(by constructor <;> omega), Ok.gd.2 ⟨(by constructor <;> omega), Ok.gd.2 ⟨(by constructor <;> omega), Ok.gd.2 ⟨(by constructor <;> omega), Ok.some.2 (next' _ ⟨q + 1, by simp, by omega, fun j => if j = k then false else rem j, ⟨by simp only [List.length_set]; exact hll, fun u hu => ?_⟩, fun j hj hfj => ?_⟩ (by simp only; omega))⟩⟩⟩⟩⟩⟩
      · rw [Zbg hkl hf hrk (if_pos rfl) (fun j _ hne _ => if_neg hne), hto]
        simp only [Zab, hll]
        by_cases e : w = u
        · subst e; rw [if_pos ⟨rfl, hw⟩, if_pos rfl]; omega
        · rw [if_neg (fun h => e h.1), if_neg (by omega), hc u hu]; rfl
      · by_cases e : j = k
        · subst e
          simp only [if_true]
          exact ⟨fun _ => .inr ⟨q, by omega, hk⟩, fun _ => trivial⟩
        · simp only [if_neg e]
          rw [hrem j hj hfj]
          constructor
          · rintro (h | ⟨p, hp, h⟩)
            · exact .inl h
            · exact .inr ⟨p, by omega, h⟩
          · rintro (h | ⟨p, hp, h⟩)
            · exact .inl h
            · rcases Nat.lt_or_ge p q with h2 | h2
              · exact .inr ⟨p, h2, h⟩
              · rw [show p = q by omega, hk] at h; exact absurd (Int.natCast_inj.1 h).symm e
    · unfold Z5m
      refine Ok.gd.2 ⟨(by constructor <;> omega), Ok.some.2 (next _ ⟨x + 1, by simp, by omega, rem, ⟨hll, hc⟩, fun k hk hf => ?_⟩ (by simp only; omega))⟩
      rw [hrem k hk hf]
      constructor
      · rintro (h | ⟨p, hp, h⟩)
        · omega
        · obtain ⟨k', hk', -, -, hfr⟩ := ho.at hxm (q := p) (by omega)
          rw [hk'] at h
          rw [← Int.natCast_inj.1 h, hfr]; omega
      · intro h
        by_cases e : (n.Arcs.getD k default).fr = (x : Int)
        · obtain ⟨p, hp, h2⟩ := ho.in hxm hk hf e
          exact .inr ⟨p, by omega, h2⟩
        · exact .inl (by omega)
  · rw [hc w hw, Zai (rem := fun _ => false) (rem' := rem) fun k hk hf => (hrem k hk hf).2 (by
      have := he k hk false
      simp only [vtx, Bool.false_eq_true, if_false] at this
      omega)]
theorem s_free {left : List Int} (hm2 : m ≤ 4096) (hll : left.length = m) :
    Ok (Z20 (fun s => Z3f left s.1 s.2) Z40 ([], 0)) (fun fr => fr = ((List.range m).filter fun v => left.getD v 0 = 0).map fun v : Nat => (v : Int)) := by
  refine Z86 (fun s => ∃ x : Nat, s.2 = x ∧ x ≤ m ∧ s.1 = ((List.range x).filter fun v => left.getD v 0 = 0).map fun v : Nat => (v : Int)) (fun s => (m - s.2).toNat) ⟨0, rfl, by omega, rfl⟩ (by unfold Z40; simp only; omega) ?_
  rintro ⟨fr, x'⟩ ⟨x, h1, hx, h2⟩ P next exit
  simp only at h1 h2 next ⊢
  subst h1
  have hfl : fr.length ≤ x := by rw [h2, List.length_map]; have := List.length_filter_le (fun v => decide (left.getD v 0 = 0)) (List.range x); rw [List.length_range] at this; exact this
  unfold Z3f
  simp only [Int.toNat_natCast]
  refine Ok.ite.2 ⟨fun hlt => Ok.gd.2 ⟨(by constructor <;> omega), Ok.ite.2 ⟨fun h0 => Ok.gd.2 ⟨by rw [List.length_append]; simp only [List.length_singleton]; constructor <;> omega, Ok.gd.2 ⟨(by constructor <;> omega), Ok.some.2 (next _ ⟨x + 1, by simp, by omega, ?_⟩ (by simp only; omega))⟩⟩, fun h0 => Ok.gd.2 ⟨(by constructor <;> omega), Ok.some.2 (next _ ⟨x + 1, by simp, by omega, ?_⟩ (by simp only; omega))⟩⟩⟩, fun hge => Ok.some.2 (exit _ ?_)⟩
  · rw [List.range_succ, List.filter_append, List.map_append, ← h2, List.filter_cons_of_pos (by simpa using h0)]; rfl
  · rw [List.range_succ, List.filter_append, List.map_append, ← h2, List.filter_cons_of_neg (by simpa using h0)]; simp
  · rw [h2, show x = m by omega]
end
end Go.Acq
namespace Go.Acq
open Go
set_option linter.unusedSimpArgs false
set_option linter.unusedVariables false
section
variable {n : Net} {m : Nat} {f : List Int} {out : List (List Int)}
def OrdP (n : Net) (f : List Int) (o : List Int) : Prop := ∀ i, i < o.length → ∀ k, k < n.Arcs.length → 0 < f.getD k 0 → (n.Arcs.getD k default).to = o.getD i 0 → ∃ j, j < i ∧ o.getD j 0 = (n.Arcs.getD k default).fr
structure RowP (m : Nat) (o : List Int) : Prop where
  nd : o.Nodup
  lt : ∀ x, x ∈ o → ∃ v : Nat, x = v ∧ v < m
theorem RowP.len {o : List Int} (h : RowP m o) : o.length ≤ m := by
 have := List.Nodup.length_le_of_subset h.nd (l₂ := (List.range m).map fun v : Nat => (v : Int)) (fun x hx => by
  obtain ⟨v, rfl, hv⟩ := h.lt x hx
  exact List.mem_map.2 ⟨v, List.mem_range.2 hv, rfl⟩)
 rw [List.length_map, List.length_range] at this
 exact this
theorem RowP.perm {o o' : List Int} (h : RowP m o) (hp : List.Perm o o') : RowP m o' := ⟨(List.Perm.nodup_iff hp).1 h.nd, fun x hx => h.lt x ((List.Perm.mem_iff hp).2 hx)⟩
theorem RowP.left {o o' : List Int} (h : RowP m (o ++ o')) : RowP m o := ⟨(List.nodup_append.1 h.nd).1, fun x hx => h.lt x (List.mem_append_left _ hx)⟩
structure KP (n : Net) (m : Nat) (f : List Int) (out : List (List Int)) (o left fr : List Int) (rem : Nat → Bool) : Prop where
  cnt : CntP n m f left rem
  row : RowP m (o ++ fr)
  zero : ∀ v : Nat, v < m → ((v : Int) ∈ o ++ fr ↔ left.getD v 0 = 0)
  ord : OrdP n f o
  none : (∀ k, k < n.Arcs.length → ¬ 0 < f.getD k 0) → o ++ fr = (List.range m).map fun v : Nat => (v : Int)
theorem ins_perm (fr : List Int) (i : Nat) (w : Int) : List.Perm (fr.take i ++ [w] ++ fr.drop i) (w :: fr) := by
 have h1 : List.Perm (fr.take i ++ [w] ++ fr.drop i) ([w] ++ fr.take i ++ fr.drop i) := List.Perm.append_right _ List.perm_append_comm
 have e : [w] ++ fr.take i ++ fr.drop i = w :: fr := by rw [List.append_assoc, List.take_append_drop]; rfl
 rw [e] at h1
 exact h1
theorem KP.start (ho : OutIs n m f out) {left : List Int} (h : CntP n m f left fun _ => false) : KP n m f out [] left (((List.range m).filter fun v => left.getD v 0 = 0).map fun v : Nat => (v : Int)) fun _ => false := by
 refine ⟨h, ⟨?_, fun x hx => ?_⟩, fun v hv => ?_, fun i hi => by simp at hi, fun hn => ?_⟩
 ·
  rw [List.nil_append]
  refine List.pairwise_map.2 (List.Pairwise.imp (fun {a b} hab => ?_) (List.Pairwise.filter _ List.nodup_range))
  exact fun e => hab (Int.natCast_inj.1 e)
 ·
  rw [List.nil_append] at hx
  obtain ⟨v, hv, rfl⟩ := List.mem_map.1 hx
  exact ⟨v, rfl, List.mem_range.1 (List.mem_filter.1 hv).1⟩
 ·
  rw [List.nil_append, List.mem_map]
  constructor
  ·
   rintro ⟨u, hu, e⟩
   rw [← Int.natCast_inj.1 e]
   simpa using (List.mem_filter.1 hu).2
  ·
   intro h0
   exact ⟨v, List.mem_filter.2 ⟨List.mem_range.2 hv, by simpa using h0⟩, rfl⟩
 ·
  rw [List.nil_append, List.filter_eq_self.2]
  intro v hv
  have hv := List.mem_range.1 hv
  rw [decide_eq_true_eq, h.2 v hv, cntIn_zero.2 (fun k hk hf _ => absurd hf (hn k hk))]; rfl
theorem s_round (hm2 : m ≤ 4096) (hl : n.Arcs.length ≤ 16384) (he : Z5b m n.Arcs) (ho : OutIs n m f out) {A : List Int} {D O : List Bool} {W : List Int} {o left fr : List Int} {rem : Nat → Bool} (h : KP n m f out o left fr rem) (hr : ∀ k, k < n.Arcs.length → 0 < f.getD k 0 → (rem k = true ↔ (n.Arcs.getD k default).fr ∈ o)) {v : Nat} (hfr : fr.getD 0 0 = (v : Int)) (hf0 : 0 < fr.length) :
    Ok (Z20 (fun s => Z3e n (CyclesSearch.mk n out A D O W) o fr s.1 s.2.1 s.2.2) Z40 (left, fr.drop 1, 0)) (fun r => r.2.1 = o ++ [(v : Int)] ∧ ∃ rem', KP n m f out (o ++ [(v : Int)]) r.1 r.2.2 rem' ∧ ∀ k, k < n.Arcs.length → 0 < f.getD k 0 → (rem' k = true ↔ (n.Arcs.getD k default).fr ∈ o ++ [(v : Int)])) := by
  obtain ⟨fr', rfl⟩ : ∃ fr', fr = (v : Int) :: fr' := by
    cases fr with
    | nil => simp at hf0
    | cons x fr' => simp only [List.getD_cons_zero] at hfr; subst hfr; exact ⟨fr', rfl⟩
  have happ : o ++ (v : Int) :: fr' = (o ++ [(v : Int)]) ++ fr' := by simp
  obtain ⟨v', e, hvm⟩ := h.row.lt (v : Int) (by simp)
  have e := Int.natCast_inj.1 e
  subst e
  have hvo : (v : Int) ∉ o := fun hm => by
    have := (List.nodup_append.1 h.row.nd).2.2 _ hm _ (.head _)
    exact this rfl
  have hlv : left.getD v 0 = 0 := (h.zero v hvm).1 (by simp)
  have hnd : (out.getD v []).Nodup := by rw [ho.2 v hvm]; exact Zbd _
  have hlo := ho.len hvm
  have hord : OrdP n f (o ++ [(v : Int)]) := by
    intro i hi k hk hf hto
    rw [List.length_append, List.length_singleton] at hi
    by_cases e : i < o.length
    · rw [appL e] at hto
      obtain ⟨j, hj, e2⟩ := h.ord i e k hk hf hto
      exact ⟨j, hj, by rw [appL (by omega)]; exact e2⟩
    · rw [appR (by omega), show i - o.length = 0 by omega] at hto
      have h0 : Zav n.Arcs f rem v n.Arcs.length = 0 := by
        have := h.cnt.2 v hvm
        omega
      have := (hr k hk hf).1 (cntIn_zero.1 h0 k hk hf hto)
      obtain ⟨j, hj, e2⟩ := List.getElem_of_mem this
      exact ⟨j, by omega, by rw [appL hj, List.getD_eq_getElem?_getD, List.getElem?_eq_getElem hj, e2]; rfl⟩
  rw [List.drop_succ_cons, List.drop_zero]
  refine Z86 (fun s => ∃ q : Nat, s.2.2 = q ∧ q ≤ (out.getD v []).length ∧ ∃ rem, KP n m f out (o ++ [(v : Int)]) s.1 s.2.1 rem ∧ ∀ k, k < n.Arcs.length → 0 < f.getD k 0 → (rem k = true ↔ (n.Arcs.getD k default).fr ∈ o ∨ ∃ p, p < q ∧ (out.getD v []).getD p 0 = (k : Int))) (fun s => ((out.getD v []).length - s.2.2).toNat)
    ⟨0, rfl, by omega, rem, ⟨h.cnt, by rw [← happ]; exact h.row, fun u hu => by rw [← happ]; exact h.zero u hu, hord, fun hn => by rw [← happ]; exact h.none hn⟩, fun k hk hf => by
      rw [hr k hk hf]
      exact ⟨fun h => .inl h, fun h => by rcases h with h | ⟨p, hp, -⟩; (exact h); omega⟩⟩ (by unfold Z40; simp only; omega) ?_
  rintro ⟨left, fr, y⟩ ⟨q, h1, hq, rem, hK, hrem⟩ P next exit
  simp only at h1 hK next ⊢
  subst h1
  have hoo := ho.1
  have hll := hK.cnt.1
  have hrl := hK.row.len
  rw [List.length_append, List.length_append] at hrl
  unfold Z3e
  simp only [List.getD_cons_zero, Int.toNat_natCast, show (0 : Int).toNat = 0 from rfl]
  refine Ok.ite.2 ⟨fun hy => ?_, fun hy => Ok.some.2 (exit _ ⟨rfl, rem, hK, fun k hk hf => ?_⟩)⟩
  · have hql : q < (out.getD v []).length := by omega
    obtain ⟨k, hk, hkl, hf, hfk⟩ := ho.at hvm hql
    have e1 := he k hkl true
    simp only [vtx, if_true] at e1
    obtain ⟨w, hto⟩ : ∃ w : Nat, (n.Arcs.getD k default).to = (w : Int) := ⟨(n.Arcs.getD k default).to.toNat, by omega⟩
    have hw : w < m := by omega
    have hcw := hK.cnt.2 w hw
    have hcl := Zev (al := n.Arcs) (f := f) (rem := rem) (w := w) n.Arcs.length
    have hrk : rem k = false := by
      rw [Bool.eq_false_iff]
      intro h2
      rcases (hrem k hkl hf).1 h2 with h3 | ⟨p, hp, h3⟩
      · rw [hfk] at h3; exact hvo h3
      · have e : p = q := by
          have g1 : (out.getD v [])[p]'(by omega) = (out.getD v [])[q] := by
            rw [List.getD_eq_getElem?_getD, List.getElem?_eq_getElem (by omega)] at h3 hk
            exact h3.trans hk.symm
          exact (List.getElem_inj hnd).1 g1
        omega
    have hflip := fun u => Zbg (al := n.Arcs) (f := f) (rem := fun j => if j = k then true else rem j) (rem' := rem) (w := u) (k0 := k) (K := n.Arcs.length) hkl hf (if_pos rfl) hrk (fun j _ hne _ => (if_neg hne).symm)
    have hfw := hflip w
    rw [if_pos hto] at hfw
    have hwn : (w : Int) ∉ (o ++ [(v : Int)]) ++ fr := fun hm => by
      have := (hK.zero w hw).1 hm
      omega
    have hcnt' : CntP n m f (left.set w (left.getD w 0 - 1)) (fun j => if j = k then true else rem j) := ⟨by rw [List.length_set]; exact hll, fun u hu => by
      have := hflip u
      have h2 := hK.cnt.2 u hu
      rw [hto] at this
      rw [Zab, hll]
      by_cases e : w = u
      · subst e; rw [if_pos ⟨rfl, hw⟩]; omega
      · rw [if_neg (fun h => e h.1)]; rw [if_neg (by omega)] at this; omega⟩
    have hrem' : ∀ j, j < n.Arcs.length → 0 < f.getD j 0 → ((if j = k then true else rem j) = true ↔ (n.Arcs.getD j default).fr ∈ o ∨ ∃ p, p < q + 1 ∧ (out.getD v []).getD p 0 = (j : Int)) := by
      intro j hj hfj
      by_cases e : j = k
      · subst e
        rw [if_pos rfl]
        exact ⟨fun _ => .inr ⟨q, by omega, hk⟩, fun _ => rfl⟩
      · rw [if_neg e, hrem j hj hfj]
        constructor
        · rintro (h | ⟨p, hp, h⟩)
          · exact .inl h
          · exact .inr ⟨p, by omega, h⟩
        · rintro (h | ⟨p, hp, h⟩)
          · exact .inl h
          · rcases Nat.lt_or_ge p q with h2 | h2
            · exact .inr ⟨p, h2, h⟩
            · rw [show p = q by omega, hk] at h; exact absurd (Int.natCast_inj.1 h).symm e
    have hnone : ¬ ∀ k, k < n.Arcs.length → ¬ 0 < f.getD k 0 := fun h => h k hkl hf
    simp only [hk, hto, Int.toNat_natCast, List.length_set, Z5s (show w < left.length by omega)]
    refine Ok.gd.2 ⟨(by constructor <;> omega), Ok.gd.2 ⟨(by constructor <;> omega), Ok.gd.2 ⟨(by constructor <;> omega), Ok.gd.2 ⟨by rw [hcw]; constructor <;> omega, Ok.gd.2 ⟨(by constructor <;> omega), Ok.gd.2 ⟨(by constructor <;> omega), Ok.ite.2 ⟨fun h0 => ?_, fun h0 => ?_⟩⟩⟩⟩⟩⟩⟩
    · refine Ok.bind.2 (Ok.mono (s_BinS (by omega)) ?_)
      rintro ⟨i, b⟩ ⟨hi0, hi1⟩
      simp only at hi0 hi1 ⊢
      unfold Z4l
      refine Ok.bind.2 (Ok.gd.2 ⟨⟨hi0, hi1, by simp, by rw [List.length_append]; simp only [List.length_singleton]; constructor <;> omega⟩, Ok.some.2 ?_⟩)
      have hp := ins_perm fr i.toNat (w : Int)
      have hp2 : List.Perm ((w : Int) :: ((o ++ [(v : Int)]) ++ fr)) ((o ++ [(v : Int)]) ++ (fr.take i.toNat ++ [(w : Int)] ++ fr.drop i.toNat)) :=
        List.perm_middle.symm.trans (List.Perm.append_left _ hp.symm)
      have hrow : RowP m ((w : Int) :: ((o ++ [(v : Int)]) ++ fr)) := ⟨List.nodup_cons.2 ⟨hwn, hK.row.nd⟩, fun x hx => by
        rcases List.mem_cons.1 hx with rfl | hx
        · exact ⟨w, rfl, hw⟩
        · exact hK.row.lt x hx⟩
      refine Ok.gd.2 ⟨(by constructor <;> omega), Ok.some.2 (next _ ⟨q + 1, by simp, by omega, _, ⟨hcnt', hrow.perm hp2, fun u hu => ?_, hord, fun hn => absurd hn hnone⟩, hrem'⟩ (by simp only; omega))⟩
      rw [← List.Perm.mem_iff hp2, List.mem_cons, hK.zero u hu, Zab, hll]
      by_cases e : w = u
      · subst e
        rw [if_pos ⟨rfl, hw⟩]
        exact ⟨fun _ => h0, fun _ => .inl rfl⟩
      · rw [if_neg (fun h => e h.1)]
        exact ⟨fun h => by rcases h with h | h; (exact absurd (Int.natCast_inj.1 h).symm e); exact h, fun h => .inr h⟩
    · refine Ok.gd.2 ⟨(by constructor <;> omega), Ok.some.2 (next _ ⟨q + 1, by simp, by omega, _, ⟨hcnt', hK.row, fun u hu => ?_, hord, fun hn => absurd hn hnone⟩, hrem'⟩ (by simp only; omega))⟩
      rw [Zab, hll]
      by_cases e : w = u
      · subst e
        rw [if_pos ⟨rfl, hw⟩]
        exact ⟨fun h => absurd h hwn, fun h => absurd h h0⟩
      · rw [if_neg (fun h => e h.1)]; exact hK.zero u hu
  · rw [hrem k hk hf, List.mem_append, List.mem_singleton]
    constructor
    · rintro (h | ⟨p, hp, h⟩)
      · exact .inl h
      · obtain ⟨k', hk', -, -, hfk⟩ := ho.at hvm (q := p) (by omega)
        rw [hk'] at h
        rw [← Int.natCast_inj.1 h]; exact .inr hfk
    · rintro (h | h)
      · exact .inl h
      · obtain ⟨p, hp, h2⟩ := ho.in hvm hk hf h
        exact .inr ⟨p, by omega, h2⟩
def Topo (n : Net) (m : Nat) (f : List Int) (o : List Int) : Prop := o.length = m ∧ RowP m o ∧ OrdP n f o
theorem Topo.mem {o : List Int} (h : Topo n m f o) {v : Nat} (hv : v < m) : (v : Int) ∈ o := by
 apply Classical.byContradiction
 intro hn
 have : RowP m ((v : Int) :: o) := ⟨List.nodup_cons.2 ⟨hn, h.2.1.nd⟩, fun x hx => by
  rcases List.mem_cons.1 hx with rfl | hx
  · exact ⟨v, rfl, hv⟩
  · exact h.2.1.lt x hx⟩
 have := this.len
 rw [List.length_cons, h.1] at this
 omega
theorem Topo.acyc {o : List Int} (he : Z5b m n.Arcs) (h : Topo n m f o) : Acyc n f := by
 refine ⟨fun v => m - o.idxOf (v : Int), fun k hk hf => ?_⟩
 have e0 := he k hk false
 have e1 := he k hk true
 simp only [vtx, Bool.false_eq_true, if_false, if_true] at e0 e1
 have hto := h.mem (v := (n.Arcs.getD k default).to.toNat) (by omega)
 rw [Int.toNat_of_nonneg e1.1] at hto
 show m - o.idxOf (((n.Arcs.getD k default).to.toNat : Nat) : Int) < m - o.idxOf (((n.Arcs.getD k default).fr.toNat : Nat) : Int)
 rw [Int.toNat_of_nonneg e1.1, Int.toNat_of_nonneg e0.1]
 have hi := List.idxOf_lt_length_of_mem hto
 have hg : o.getD (o.idxOf (n.Arcs.getD k default).to) 0 = (n.Arcs.getD k default).to := by
  rw [List.getD_eq_getElem?_getD, List.getElem?_eq_getElem hi]
  exact List.getElem_idxOf hi
 obtain ⟨j, hj, e⟩ := h.2.2 _ hi k hk hf hg.symm
 have hjl : j < o.length := by omega
 have hle : o.idxOf (n.Arcs.getD k default).fr ≤ j := by
  rw [List.getD_eq_getElem?_getD, List.getElem?_eq_getElem hjl] at e
  have e : o[j] = (n.Arcs.getD k default).fr := e
  have hm : (n.Arcs.getD k default).fr ∈ o := e ▸ List.getElem_mem hjl
  have h2 := List.getElem_idxOf (List.idxOf_lt_length_of_mem hm)
  have := (List.getElem_inj h.2.1.nd (i := o.idxOf (n.Arcs.getD k default).fr) (j := j)).1 (h2.trans e.symm)
  omega
 have := h.1
 omega
theorem Zj7 (ρ : Nat → Nat) : ∀ m : Nat, ∃ B, ∀ v, v < m → ρ v ≤ B
 | 0 => ⟨0, fun v hv => by omega⟩
 | m + 1 => by
  obtain ⟨B, hB⟩ := Zj7 ρ m
  refine ⟨max B (ρ m), fun v hv => ?_⟩
  rcases Nat.lt_or_ge v m with h | h
  · have := hB v h; omega
  · rw [show v = m by omega]; omega
theorem s_Order (hl : lenok n.Arcs.length) : Ok (Z5t n f) (fun r => (¬ FwithinP n f ∧ r = ([], false)) ∨
    (FwithinP n f ∧ (r.2 = true → Topo n n.N.toNat f r.1) ∧ (r.2 = false → r.1 = [] ∧ ¬ Acyc n f) ∧ ((∀ k, k < n.Arcs.length → ¬ 0 < f.getD k 0) → r = ((List.range n.N.toNat).map fun v : Nat => (v : Int), true)))) := by
  unfold Z5t
  refine Ok.bind.2 (Ok.mono (Zcb hl) fun b hb => Ok.ite.2 ⟨fun h => Ok.some.2 (.inl ⟨fun h2 => (by rw [hb.2 h2] at h; cases h), rfl⟩), fun h => ?_⟩)
  have hw : FwithinP n f := hb.1 (by cases b; exact absurd rfl h; rfl)
  obtain ⟨m, hm, -, hm2, hl2, he, hfl⟩ := hw.vert
  refine Ok.bind.2 (Ok.mono (Zj2 hm hm2 he hl2 hfl) ?_)
  rintro s ⟨out, rfl, ho⟩
  rw [hm, Int.toNat_natCast]
  refine Ok.gd.2 ⟨(by constructor <;> omega), Ok.bind.2 (Ok.mono (s_count hm2 hl2 he ho) fun left hc => ?_)⟩
  unfold Z5l
  refine Ok.bind.2 (Ok.mono (s_free hm2 hc.1) fun fr hfr => ?_)
  unfold Z5k
  have hst := KP.start ho hc
  rw [← hfr] at hst
  refine Ok.bind.2 (Z86 (fun s => ∃ rem, KP n m f out s.2.1 s.1 s.2.2 rem ∧ ∀ k, k < n.Arcs.length → 0 < f.getD k 0 → (rem k = true ↔ (n.Arcs.getD k default).fr ∈ s.2.1)) (fun s => m - s.2.1.length) ⟨_, hst, fun k hk hf => ⟨fun h => (by cases h), fun h => (by cases h)⟩⟩ (by unfold Z40; simp only; omega) ?_)
  rintro ⟨left, o, fr⟩ ⟨rem, hK, hr⟩ P next exit
  simp only at hK hr next ⊢
  have hrl := hK.row.len
  rw [List.length_append] at hrl
  have hoo := ho.1
  unfold Z4b
  refine Ok.ite.2 ⟨fun hf => ?_, fun hf => Ok.some.2 (exit _ ?_)⟩
  · have hf0 : 0 < fr.length := by omega
    obtain ⟨v, hv, hvm⟩ := hK.row.lt (fr.getD 0 0) (List.mem_append_right _ (Z65 hf0 0))
    simp only [show (0 : Int).toNat = 0 from rfl, show (1 : Int).toNat = 1 from rfl, hv]
    refine Ok.gd.2 ⟨(by constructor <;> omega), Ok.gd.2 ⟨(by constructor <;> omega), Ok.gd.2 ⟨by rw [List.length_append]; simp only [List.length_singleton]; constructor <;> omega, Ok.gd.2 ⟨(by constructor <;> omega), Ok.bind.2 (Ok.mono (s_round hm2 hl2 he ho hK hr hv hf0) ?_)⟩⟩⟩⟩
    rintro ⟨left', o', fr'⟩ ⟨h1, rem', hK', hr'⟩
    simp only at h1 hK' ⊢
    subst h1
    exact Ok.some.2 (next _ ⟨rem', hK', hr'⟩ (by simp only [List.length_append, List.length_singleton]; omega))
  · have hfn : fr = [] := List.eq_nil_of_length_eq_zero (by omega)
    subst hfn
    have hrow := hK.row
    have hzero := hK.zero
    have hnone := hK.none
    rw [List.append_nil] at hrow hnone
    simp only [List.append_nil] at hzero
    unfold Z5j
    refine Ok.ite.2 ⟨fun hlt => Ok.some.2 (.inr ⟨hw, fun h => (by cases h), fun _ => ⟨rfl, ?_⟩, fun hn => ?_⟩), fun hge => Ok.some.2 (.inr ⟨hw, fun _ => ⟨by show o.length = m; omega, hrow, hK.ord⟩, fun h => (by cases h), fun hn => ?_⟩)⟩
    · rintro ⟨ρ, hρ⟩
      obtain ⟨B, hB⟩ := Zj7 ρ m
      have key : ∀ N, ∃ v, v < m ∧ (v : Int) ∉ o ∧ N ≤ ρ v := by
        intro N
        induction N with
        | zero =>
          apply Classical.byContradiction
          intro hno
          have : RowP m ((List.range m).map fun v : Nat => (v : Int)) := ⟨List.pairwise_map.2 (List.Pairwise.imp (fun {a b} hab e => hab (Int.natCast_inj.1 e)) List.nodup_range), fun x hx => by
            obtain ⟨v, hv, rfl⟩ := List.mem_map.1 hx
            exact ⟨v, rfl, List.mem_range.1 hv⟩⟩
          have := List.Nodup.length_le_of_subset this.nd (l₂ := o) (fun x hx => by
            obtain ⟨v, hv, rfl⟩ := List.mem_map.1 hx
            exact Classical.byContradiction fun h => hno ⟨v, List.mem_range.1 hv, h, Nat.zero_le _⟩)
          rw [List.length_map, List.length_range] at this
          omega
        | succ N ih =>
          obtain ⟨v, hv, hvo, hN⟩ := ih
          have h0 : ¬ left.getD v 0 = 0 := fun h => hvo ((hzero v hv).2 h)
          have hc := hK.cnt.2 v hv
          have h1 : ¬ Zav n.Arcs f rem v n.Arcs.length = 0 := by omega
          have h2 : ¬ ∀ k, k < n.Arcs.length → 0 < f.getD k 0 → (n.Arcs.getD k default).to = (v : Int) → rem k = true := fun h => h1 (cntIn_zero.2 h)
          obtain ⟨k, h3⟩ := Classical.not_forall.1 h2
          simp only [Classical.not_imp] at h3
          obtain ⟨hk, hfk, hto, hrk⟩ := h3
          have e0 := he k hk false
          simp only [vtx, Bool.false_eq_true, if_false] at e0
          have := hρ k hk hfk
          rw [hto, Int.toNat_natCast] at this
          refine ⟨(n.Arcs.getD k default).fr.toNat, by omega, ?_, by omega⟩
          rw [Int.toNat_of_nonneg e0.1]
          exact fun hm => hrk ((hr k hk hfk).2 hm)
      obtain ⟨v, hv, -, hN⟩ := key (B + 1)
      have := hB v hv
      omega
    · have := hnone hn
      rw [this, List.length_map, List.length_range] at hlt
      omega
    · rw [hnone hn]
end
end Go.Acq
namespace Go.Acq
open Go
set_option linter.unusedSimpArgs false
set_option linter.unusedVariables false
def Zgu (f : List Int) : Nat → Nat
  | 0 => 0
  | k + 1 => Zgu f k + (if 0 < f.getD k 0 then 1 else 0)
theorem Zj9 (f : List Int) : ∀ k, Zgu f k ≤ k
 | 0 => Nat.le_refl _
 | k + 1 => by have := Zj9 f k; simp only [Zgu]; split <;> omega
theorem Zfc {f g : List Int} : ∀ {k : Nat}, (∀ i, i < k → g.getD i 0 ≤ f.getD i 0) → Zgu g k ≤ Zgu f k
 | 0, _ => Nat.le_refl _
 | k + 1, h => by
  have := Zfc (k := k) fun i hi => h i (by omega)
  have := h k (by omega)
  simp only [Zgu]; split <;> split <;> omega
theorem Zj8 {f g : List Int} {a : Nat} : ∀ {k : Nat}, (∀ i, i < k → g.getD i 0 ≤ f.getD i 0) → a < k → 0 < f.getD a 0 → g.getD a 0 ≤ 0 → Zgu g k < Zgu f k
 | 0, _, h, _, _ => by omega
 | k + 1, h, ha, hf, hg => by
  by_cases e : a = k
  ·
   subst e
   have := Zfc (k := a) fun i hi => h i (by omega)
   simp only [Zgu]
   rw [if_neg (show ¬ 0 < g.getD a 0 by omega), if_pos hf]; omega
  ·
   have := Zj8 (k := k) (fun i hi => h i (by omega)) (by omega) hf hg
   have := h k (by omega)
   simp only [Zgu]; split <;> split <;> omega
theorem Zes {al : List Arc} {f : List Int} {i : Nat} {y : Int} (hi : i < f.length) (v : Int) : ∀ k, ex al (f.set i y) v k = ex al f v k + if i < k then ((if (al.getD i default).to = v then y - f.getD i 0 else 0) - (if (al.getD i default).fr = v then y - f.getD i 0 else 0)) else 0
 | 0 => by simp [ex]
 | k + 1 => by
  have ih := Zes (al := al) hi v (y := y) k
  simp only [ex]
  rw [ih]
  by_cases e : i = k
  ·
   subst e
   rw [if_neg (show ¬ i < i by omega), if_pos (show i < i + 1 by omega), Z5s hi]
   split <;> split <;> omega
  ·
   rw [Z3n e]
   by_cases e2 : i < k
   · rw [if_pos e2, if_pos (show i < k + 1 by omega)]; omega
   · rw [if_neg e2, if_neg (show ¬ i < k + 1 by omega)]; omega
structure Canc (n : Net) (f g : List Int) : Prop where
  len : g.length = n.Arcs.length
  le : ∀ i, i < n.Arcs.length → 0 ≤ g.getD i 0 ∧ g.getD i 0 ≤ f.getD i 0
  ex : ∀ v, ex n.Arcs g v n.Arcs.length = ex n.Arcs f v n.Arcs.length
  all : ∀ a, a < n.Arcs.length → (∀ f' c, (∀ i, i < n.Arcs.length → f'.getD i 0 ≤ f.getD i 0) → Cyc n f' c → ∃ j, j < c.length ∧ c.getD j 0 = (a : Int)) → ∀ b, b < n.Arcs.length → f.getD b 0 - g.getD b 0 ≤ f.getD a 0 - g.getD a 0
theorem Canc.refl {n : Net} {f : List Int} (hl : f.length = n.Arcs.length) (h : ∀ i, i < n.Arcs.length → 0 ≤ f.getD i 0) : Canc n f f := ⟨hl, fun i hi => ⟨h i hi, Int.le_refl _⟩, fun _ => rfl, fun a _ _ b _ => by omega⟩
theorem Canc.trans {n : Net} {f g h : List Int} (h1 : Canc n f g) (h2 : Canc n g h) : Canc n f h :=
 ⟨h2.len, fun i hi => by have := h1.le i hi; have := h2.le i hi; omega, fun v => (h2.ex v).trans (h1.ex v), fun a ha hc b hb => by
  have e1 := h1.all a ha hc b hb
  have e2 := h2.all a ha (fun f' c hf' hcy => hc f' c (fun i hi => by have := hf' i hi; have := h1.le i hi; omega) hcy) b hb
  omega⟩
theorem Canc.within {n : Net} {f g : List Int} (h : Canc n f g) (hw : FwithinP n f) : FwithinP n g := ⟨hw.1, h.len, fun i hi => by have := h.le i hi; have := hw.2.2 i hi; omega⟩
section
variable {n : Net} {f c : List Int}
theorem s_least (hc : Cyc n f c) (hf : f.length = n.Arcs.length) (hl : n.Arcs.length ≤ 16384) (hcl : c.length ≤ n.Arcs.length) :
    Ok (Z20 (fun s => Z33 f c s.1 s.2) Z40 (f.getD (c.getD 0 0).toNat 0, 0)) (fun d => (∀ j, j < c.length → d ≤ f.getD (c.getD j 0).toNat 0) ∧ ∃ j, j < c.length ∧ d = f.getD (c.getD j 0).toNat 0) := by
  refine Z86 (fun s => ∃ j : Nat, s.2 = j ∧ j ≤ c.length ∧ (∀ i, i < j → s.1 ≤ f.getD (c.getD i 0).toNat 0) ∧ ∃ i, i < c.length ∧ s.1 = f.getD (c.getD i 0).toNat 0) (fun s => (c.length - s.2).toNat) ⟨0, rfl, by omega, fun i hi => by omega, 0, hc.1, rfl⟩ (by unfold Z40; simp only; omega) ?_
  rintro ⟨d, x⟩ ⟨j, h1, hj, h2, h3⟩ P next exit
  simp only at h1 h2 h3 next ⊢
  subst h1
  unfold Z33
  simp only [Int.toNat_natCast]
  refine Ok.ite.2 ⟨fun hx => ?_, fun hx => Ok.some.2 (exit _ ⟨fun i hi => h2 i (by omega), h3⟩)⟩
  obtain ⟨k, hk, hkl, hfk, -⟩ := hc.2.1 j (by omega)
  simp only [hk]
  refine Ok.gd.2 ⟨(by constructor <;> omega), Ok.gd.2 ⟨(by constructor <;> omega), Ok.gd.2 ⟨(by constructor <;> omega), Ok.some.2 (next _ ⟨j + 1, by simp, by omega, fun i hi => ?_, ?_⟩ (by simp only; omega))⟩⟩⟩
  · simp only [Int.toNat_natCast]
    rcases Nat.lt_or_ge i j with h | h
    · have := h2 i h; omega
    · rw [show i = j by omega, hk, Int.toNat_natCast]; omega
  · simp only [Int.toNat_natCast]
    obtain ⟨i, hi, e⟩ := h3
    by_cases hle : d ≤ f.getD k 0
    · exact ⟨i, hi, by rw [Int.min_eq_left hle]; exact e⟩
    · exact ⟨j, by omega, by rw [Int.min_eq_right (by omega), hk, Int.toNat_natCast]⟩
theorem Cyc.arc_inj (hc : Cyc n f c) {i j : Nat} (hi : i < c.length) (hj : j < c.length) (h : c.getD i 0 = c.getD j 0) : i = j := hc.2.2 i j hi hj (by rw [h])
theorem Cyc.len (hc : Cyc n f c) : c.length ≤ n.Arcs.length := by
 have hnd : (c.map Int.toNat).Nodup := by
  refine List.pairwise_iff_getElem.2 fun i j hi hj hij h => ?_
  rw [List.length_map] at hi hj
  rw [List.getElem_map, List.getElem_map] at h
  obtain ⟨a, ha, -⟩ := hc.2.1 i (by omega)
  obtain ⟨b, hb, -⟩ := hc.2.1 j hj
  have e1 : c.getD i 0 = c[i] := by rw [List.getD_eq_getElem?_getD, List.getElem?_eq_getElem (by omega)]; rfl
  have e2 : c.getD j 0 = c[j] := by rw [List.getD_eq_getElem?_getD, List.getElem?_eq_getElem hj]; rfl
  have := hc.arc_inj (i := i) (j := j) (by omega) hj (by rw [ha, hb]; rw [← e1, ← e2, ha, hb, Int.toNat_natCast, Int.toNat_natCast] at h; rw [h])
  omega
 have := List.Nodup.length_le_of_subset hnd (l₂ := List.range n.Arcs.length) (fun u hu => by
  obtain ⟨x, hx, rfl⟩ := List.mem_map.1 hu
  obtain ⟨i, hi, rfl⟩ := List.getElem_of_mem hx
  obtain ⟨a, ha, hal, -⟩ := hc.2.1 i hi
  have e1 : c.getD i 0 = c[i] := by rw [List.getD_eq_getElem?_getD, List.getElem?_eq_getElem hi]; rfl
  rw [← e1, ha, Int.toNat_natCast]
  exact List.mem_range.2 hal)
 rw [List.length_map, List.length_range] at this
 exact this
theorem s_take {d : Int} (hc : Cyc n f c) (hw : FwithinP n f) (hl : n.Arcs.length ≤ 16384) (hd0 : 0 < d) (hd : ∀ j, j < c.length → d ≤ f.getD (c.getD j 0).toNat 0) :
    Ok (Z20 (fun s => Z32 c d s.1 s.2) Z40 (f, 0)) (fun g => Canc n f g ∧ ∀ j, j < c.length → g.getD (c.getD j 0).toNat 0 = f.getD (c.getD j 0).toNat 0 - d) := by
  have hcl := hc.len
  have hfl := hw.2.1
  refine Z86 (fun s => ∃ j : Nat, s.2 = j ∧ j ≤ c.length ∧ s.1.length = n.Arcs.length ∧ (∀ i, i < n.Arcs.length → (s.1.getD i 0 = f.getD i 0 ∧ ∀ p, p < j → c.getD p 0 ≠ (i : Int)) ∨ (s.1.getD i 0 = f.getD i 0 - d ∧ ∃ p, p < j ∧ c.getD p 0 = (i : Int))) ∧
    ∀ v, ex n.Arcs s.1 v n.Arcs.length = ex n.Arcs f v n.Arcs.length + (if (n.Arcs.getD (c.getD 0 0).toNat default).fr = v then d else 0) - (if (n.Arcs.getD (c.getD (j % c.length) 0).toNat default).fr = v then d else 0))
    (fun s => (c.length - s.2).toNat) ⟨0, rfl, by omega, hfl, fun i hi => .inl ⟨rfl, fun p hp => by omega⟩, fun v => by rw [Nat.zero_mod]; simp only; omega⟩ (by unfold Z40; simp only; omega) ?_
  rintro ⟨xs, x⟩ ⟨j, h1, hj, hxl, hxs, hex⟩ P next exit
  simp only at h1 hxl hxs hex next ⊢
  subst h1
  unfold Z32
  simp only [Int.toNat_natCast]
  refine Ok.ite.2 ⟨fun hx => ?_, fun hx => ?_⟩
  · have hjl : j < c.length := by omega
    obtain ⟨k, hk, hkl, hfk, hto⟩ := hc.2.1 j hjl
    have hdk := hd j hjl
    rw [hk, Int.toNat_natCast] at hdk
    have hwk := hw.2.2 k hkl
    have ht1 := hw.tot (k + 1) (by omega)
    have ht0 := hw.tot k (by omega)
    simp only [tot] at ht1
    have hxk : xs.getD k 0 = f.getD k 0 := by
      rcases hxs k hkl with h | ⟨-, p, hp, e⟩
      · exact h.1
      · have := hc.arc_inj (i := p) (j := j) (by omega) hjl (by rw [e, hk]); omega
    simp only [hk, Int.toNat_natCast, hxk]
    refine Ok.gd.2 ⟨(by constructor <;> omega), Ok.gd.2 ⟨(by constructor <;> omega), Ok.gd.2 ⟨(by constructor <;> omega), Ok.gd.2 ⟨(by constructor <;> omega), Ok.gd.2 ⟨(by constructor <;> omega), Ok.some.2 (next _ ⟨j + 1, by simp, by omega, by simp [hxl], fun i hi => ?_, fun v => ?_⟩ (by simp only; omega))⟩⟩⟩⟩⟩
    · by_cases e : k = i
      · subst e
        exact .inr ⟨Z5s (by omega), j, by omega, hk⟩
      · simp only [Z3n e]
        rcases hxs i hi with ⟨h, h2⟩ | ⟨h, p, hp, h2⟩
        · refine .inl ⟨h, fun p hp => ?_⟩
          rcases Nat.lt_or_ge p j with h3 | h3
          · exact h2 p h3
          · rw [show p = j by omega, hk]; omega
        · exact .inr ⟨h, p, by omega, h2⟩
    · simp only
      rw [Zes (by omega), if_pos hkl, hex v, hxk, Nat.mod_eq_of_lt hjl, hk, Int.toNat_natCast, hto]
      split <;> split <;> split <;> omega
  · have e : j = c.length := by omega
    subst e
    refine Ok.some.2 (exit _ ⟨⟨hxl, fun i hi => ?_, fun v => ?_, fun a ha hca b hb => ?_⟩, fun p hp => ?_⟩)
    · have := hw.2.2 i hi
      rcases hxs i hi with ⟨h, -⟩ | ⟨h, p, hp, h2⟩
      · omega
      · have := hd p hp
        rw [h2, Int.toNat_natCast] at this; omega
    · rw [hex v, Nat.mod_self]; omega
    · obtain ⟨p, hp, h2⟩ := hca f c (fun i _ => Int.le_refl _) hc
      have ea : xs.getD a 0 = f.getD a 0 - d := by
        rcases hxs a ha with ⟨-, h⟩ | ⟨h, -⟩
        · exact absurd h2 (h p hp)
        · exact h
      rcases hxs b hb with ⟨h, -⟩ | ⟨h, -⟩ <;> omega
    · obtain ⟨k, hk, hkl, -⟩ := hc.2.1 p hp
      rw [hk, Int.toNat_natCast]
      rcases hxs k hkl with ⟨-, h⟩ | ⟨h, -⟩
      · exact absurd hk (h p hp)
      · exact h
theorem s_Cancel (hl : lenok n.Arcs.length) : Ok (Z57 n f) (fun r => (¬ FwithinP n f ∧ r = ([], 0, 20)) ∨
    (FwithinP n f ∧ r.2.2 = 0 ∧ Canc n f r.1 ∧ Acyc n r.1 ∧ Z4u n r.1 = some [] ∧ 0 ≤ r.2.1 ∧ r.2.1 ≤ Zgu f n.Arcs.length ∧ (Acyc n f → r.1 = f ∧ r.2.1 = 0) ∧ (¬ Acyc n f → 0 < r.2.1))) := by
  unfold Z57
  refine Ok.bind.2 (Ok.mono (Zcb hl) fun b hb => Ok.ite.2 ⟨fun h => Ok.some.2 (.inl ⟨fun h2 => (by rw [hb.2 h2] at h; cases h), rfl⟩), fun h => ?_⟩)
  have hw : FwithinP n f := hb.1 (by cases b; exact absurd rfl h; rfl)
  obtain ⟨m, hm, -, hm2, hl2, he, hfl⟩ := hw.vert
  have hcl : Z35 f = some f := by
    refine Zge ?_
    unfold Z35
    exact Ok.gd.2 ⟨by constructor <;> omega, Ok.some.2 rfl⟩
  refine Ok.bind.2 (Zbf hcl (Ok.bind.2 ?_))
  have hpl := Zj9 f n.Arcs.length
  refine Z86 (fun s => Canc n f s.1 ∧ 0 ≤ s.2 ∧ s.2 + Zgu s.1 n.Arcs.length ≤ Zgu f n.Arcs.length ∧ (Acyc n f → s.1 = f ∧ s.2 = 0) ∧ (¬ Acyc n f → (s.1 = f ∧ s.2 = 0) ∨ 0 < s.2)) (fun s => Zgu s.1 n.Arcs.length) ⟨Canc.refl hfl fun i hi => (hw.2.2 i hi).1, by simp only; omega, by simp only; omega, fun _ => ⟨rfl, rfl⟩, fun _ => .inl ⟨rfl, rfl⟩⟩ (by unfold Z40; simp only; omega) ?_
  rintro ⟨g, k⟩ ⟨hC, hk0, hk, hA, hB⟩ P next exit
  simp only at hC hk0 hk hA hB next ⊢
  have hwg := hC.within hw
  unfold Z3w
  obtain ⟨c, hc1, hc2⟩ := s_first hm hm2 hl2 he hC.len
  refine Ok.bind.2 (Zbf hc1 (Ok.ite.2 ⟨fun hx => ?_, fun hx => ?_⟩))
  · have hcn : c = [] := List.eq_nil_of_length_eq_zero (by omega)
    subst hcn
    have hacy : Acyc n g := by
      rcases hc2 with h | h
      · have := h.1; simp at this
      · exact h.2
    refine Ok.some.2 (exit _ (Ok.some.2 (.inr ⟨hw, rfl, hC, hacy, hc1, hk0, (by show k ≤ _; omega), hA, fun h => ?_⟩)))
    rcases hB h with ⟨h1, -⟩ | h1
    · subst h1; exact absurd hacy h
    · exact h1
  · have hcy : Cyc n g c := by
      rcases hc2 with h | h
      · exact h
      · rw [h.1] at hx; exact absurd rfl hx
    have hnA : ¬ Acyc n f := fun h => by
      have := (hA h).1
      subst this
      exact hcy.not h
    have hcl := hcy.len
    obtain ⟨k0, hk0', hk0l, hk0f, -⟩ := hcy.2.1 0 hcy.1
    have hgl := hC.len
    simp only [show (0 : Int).toNat = 0 from rfl]
    refine Ok.gd.2 ⟨by have := hcy.1; constructor <;> omega, Ok.gd.2 ⟨by simp only [hk0']; constructor <;> omega, Ok.bind.2 (Ok.mono (s_least hcy hC.len hl2 hcl) ?_)⟩⟩
    rintro d ⟨hd1, p, hp, hd2⟩
    unfold Z50
    obtain ⟨a, ha, hal, haf, -⟩ := hcy.2.1 p hp
    rw [ha, Int.toNat_natCast] at hd2
    refine Ok.bind.2 (Ok.mono (s_take hcy hwg hl2 (by omega) hd1) ?_)
    rintro g2 ⟨hC2, hg2⟩
    unfold Z4z
    have h0 := hg2 p hp
    rw [ha, Int.toNat_natCast] at h0
    have hlt := Zj8 (f := g) (g := g2) (a := a) (k := n.Arcs.length) (fun i hi => (hC2.le i hi).2) hal haf (by omega)
    exact Ok.gd.2 ⟨by constructor <;> omega, Ok.some.2 (next _ ⟨hC.trans hC2, by simp only; omega, by simp only; omega, fun h => absurd h hnA, fun _ => .inr (by simp only; omega)⟩ hlt)⟩
end
end Go.Acq
namespace Go.Acq
open Go
set_option linter.unusedSimpArgs false
end Go.Acq
namespace Go.Acq
open Go
set_option linter.unusedSimpArgs false
theorem Zfk {α : Type} {xs ys : List α} {d : α} {i : Nat} (h : i < xs.length) : (xs ++ ys).getD i d = xs.getD i d := by
 rw [List.getD_eq_getElem?_getD, List.getElem?_append_left h, List.getD_eq_getElem?_getD]
theorem Zfj {α : Type} {xs ys : List α} {d : α} {i : Nat} (h : xs.length ≤ i) : (xs ++ ys).getD i d = ys.getD (i - xs.length) d := by
 rw [List.getD_eq_getElem?_getD, List.getElem?_append_right h, List.getD_eq_getElem?_getD]
theorem pos_row {al : List Arc} {i v : Nat} {s : Bool} (hi : i < al.length) (hne : (al.getD i default).fr ≠ (al.getD i default).to) (h0 : 0 ≤ vtx (al.getD i default) s) (h1 : Z17 al v ≤ pos al i s) (h2 : pos al i s < Z17 al (v + 1)) : vtx (al.getD i default) s = v ∧ pos al i s = Z17 al v + cnt al v i := by
 obtain ⟨u, hu⟩ : ∃ u : Nat, vtx (al.getD i default) s = u := ⟨(vtx (al.getD i default) s).toNat, by omega⟩
 have hcl := Zcl (s := s) hi hne h0
 have hpos : pos al i s = Z17 al u + cnt al u i := by unfold pos; rw [hu, Int.toNat_natCast]
 rw [hu, Int.toNat_natCast] at hcl
 have hb1 : Z17 al (u + 1) = Z17 al u + cnt al u al.length := rfl
 have : u = v := by
  rcases Nat.lt_trichotomy u v with h | h | h
  · have := Z67 (al := al) (show u + 1 ≤ v by omega); omega
  · exact h
  · have := Z67 (al := al) (show v + 1 ≤ u by omega); omega
 subst this
 exact ⟨hu, hpos⟩
end Go.Acq
namespace Go.Acq
open Go
set_option linter.unusedSimpArgs false
def totC (al : List Arc) : Nat → Int
  | 0 => 0
  | k + 1 => totC al k + (al.getD k default).cap
theorem Zgq (al : List Arc) : ∀ k, k ≤ al.length → totC al k = tot (al.map (·.cap)) k
 | 0, _ => rfl
 | k + 1, hk => by
  simp only [totC, tot, Zgq al k (by omega)]
  rw [List.getD_eq_getElem?_getD, List.getD_eq_getElem?_getD, List.getElem?_map, List.getElem?_eq_getElem (show k < al.length by omega)]; rfl
theorem Zjc {al : List Arc} {i : Nat} (hi : i < al.length) : (al.map (·.cap)).getD i 0 = (al.getD i default).cap := by
 rw [List.getD_eq_getElem?_getD, List.getD_eq_getElem?_getD, List.getElem?_map, List.getElem?_eq_getElem hi]; rfl
theorem Zgg {n : Net} (h : Z74 n.N n.S n.T n.Arcs = 0) (hc : ∀ i, i < n.Arcs.length → 0 ≤ (n.Arcs.getD i default).cap) : FwithinP n (n.Arcs.map (·.cap)) :=
 ⟨h, by simp, fun i hi => by rw [Zjc hi]; exact ⟨hc i hi, Int.le_refl _⟩⟩
theorem Zdt {n : Net} (h : Z74 n.N n.S n.T n.Arcs = 0) : ∀ i, i < n.Arcs.length → 0 ≤ (n.Arcs.getD i default).cap := fun i hi => by
 have := List.all_eq_true.1 (Z2s h).2.2.2.2.1 _ (Z65 hi default)
 simpa [Zh4] using this
theorem Ziz {n : Net} (h : Z74 n.N n.S n.T n.Arcs = 0) : ∀ k, k ≤ n.Arcs.length → 0 ≤ totC n.Arcs k ∧ totC n.Arcs k ≤ 4611686018427387904 := fun k hk => by
 rw [Zgq _ k hk]
 have := (Zgg h (Zdt h)).tot k (by simpa using hk)
 exact this
end Go.Acq
namespace Go.Acq
open Go
set_option linter.unusedSimpArgs false
inductive Reach (G : Nat → Nat → Prop) (s : Nat) : Nat → Prop
  | refl : Reach G s s
  | step {u v : Nat} : Reach G s u → G u v → Reach G s v
theorem Reach.trans {G : Nat → Nat → Prop} {a b c : Nat} (h : Reach G a b) (g : Reach G b c) : Reach G a c := by
 induction g with
 | refl => exact h
 | step _ h2 ih => exact .step ih h2
theorem Reach.mono {G K : Nat → Nat → Prop} {a b : Nat} (h : Reach G a b) (hk : ∀ u v, G u v → K u v) : Reach K a b := by
 induction h with
 | refl => exact .refl
 | step _ h2 ih => exact .step ih (hk _ _ h2)
def tc (l : List Bool) : Nat → Nat
  | 0 => 0
  | k + 1 => tc l k + if l.getD k false = true then 1 else 0
theorem tc_le (l : List Bool) : ∀ k, tc l k ≤ k
 | 0 => Nat.le_refl _
 | k + 1 => by have := tc_le l k; simp only [tc]; split <;> omega
theorem tc_set {l : List Bool} {i : Nat} (hi : i < l.length) (hf : l.getD i false = false) : ∀ k : Nat, tc (l.set i true) k = tc l k + (if i < k then 1 else 0)
 | 0 => by simp [tc]
 | k + 1 => by
  have ih := tc_set hi hf k
  simp only [tc, ih, Zab]
  by_cases c : i = k
  ·
   subst c
   rw [if_neg (show ¬ i < i by omega), if_pos (show i = i ∧ i < l.length from ⟨rfl, hi⟩), hf, if_pos rfl, if_pos (show i < i + 1 by omega)]; rfl
  ·
   rw [if_neg (show ¬(i = k ∧ i < l.length) from fun h => c h.1)]
   by_cases c2 : i < k
   · rw [if_pos c2, if_pos (show i < k + 1 by omega)]; omega
   · rw [if_neg c2, if_neg (show ¬ i < k + 1 by omega)]; omega
structure MetI (G : Nat → Nat → Prop) (s m : Nat) (xs : List Bool) (row : List Int) : Prop where
  len : xs.length = m
  nat : ∀ q, q < row.length → ∃ v : Nat, row.getD q 0 = v ∧ v < m ∧ xs.getD v false = true ∧ Reach G s v
  has : ∀ v, v < m → xs.getD v false = true → ∃ q, q < row.length ∧ row.getD q 0 = (v : Int)
  cnt : row.length = tc xs m
theorem MetI.le {G : Nat → Nat → Prop} {s m : Nat} {xs : List Bool} {row : List Int} (h : MetI G s m xs row) : row.length ≤ m := by rw [h.cnt]; exact tc_le _ _
theorem MetI.put {G : Nat → Nat → Prop} {s m v : Nat} {xs : List Bool} {row : List Int} (h : MetI G s m xs row) (hv : v < m) (hf : xs.getD v false = false) (hr : Reach G s v) : MetI G s m (xs.set v true) (row ++ [(v : Int)]) := by
 have hl := h.len
 refine ⟨by simp [hl], fun q hq => ?_, fun u hu hx => ?_, ?_⟩
 ·
  rw [List.length_append, List.length_singleton] at hq
  rcases Nat.lt_or_ge q row.length with h1 | h1
  ·
   obtain ⟨u, h2, h3, h4, h5⟩ := h.nat q h1
   refine ⟨u, by rw [Zfk h1]; exact h2, h3, ?_, h5⟩
   rw [Zab]; split
   · rfl
   · exact h4
  ·
   refine ⟨v, ?_, hv, by rw [Zab, if_pos ⟨rfl, by omega⟩], hr⟩
   rw [Zfj h1, show q - row.length = 0 by omega]; rfl
 ·
  rw [Zab] at hx
  by_cases c : v = u
  ·
   refine ⟨row.length, by simp, ?_⟩
   rw [Zfj (Nat.le_refl _), Nat.sub_self, ← c]; rfl
  ·
   rw [if_neg (fun h => c h.1)] at hx
   obtain ⟨q, h1, h2⟩ := h.has u hu hx
   exact ⟨q, by rw [List.length_append]; omega, by rw [Zfk h1]; exact h2⟩
 · rw [List.length_append, List.length_singleton, tc_set (by omega) hf, if_pos hv, h.cnt]
end Go.Acq
namespace Go.Acq
open Go
set_option linter.unusedSimpArgs false
end Go.Acq
namespace Go.Acq
open Go
set_option linter.unusedVariables false
structure Pre where
  Res : List Int
  Ex : List Int
  H : List Int
  deriving DecidableEq
instance : Inhabited Pre := ⟨⟨default, default, default⟩⟩
end Go.Acq
namespace Go.Acq
open Go
set_option linter.unusedSimpArgs false
def hd (c : Csr) (j : Nat) : Nat := (c.Head.getD j 0).toNat
def rv (c : Csr) (j : Nat) : Nat := (c.Rev.getD j 0).toNat
def fs (c : Csr) (v : Nat) : Nat := (c.First.getD v 0).toNat
def tl (c : Csr) (j : Nat) : Nat := hd c (rv c j)
def bk (c : Csr) (j : Nat) : Bool := c.Back.getD j false
def cp (c : Csr) (j : Nat) : Int := max (c.Cap.getD j 0) (c.Cap.getD (rv c j) 0)
structure Row (n : Net) (m L : Nat) (c : Csr) : Prop where
  is : CsrIs n m c
  chk : Z74 n.N n.S n.T n.Arcs = 0
  hm : n.N = m
  hL : Z17 n.Arcs m = L
section row
variable {n : Net} {m L : Nat} {c : Csr}
theorem Row.he (r : Row n m L c) : Z5b m n.Arcs := Zcj (by rw [← r.hm]; exact (Z2s r.chk).2.2.2.1)
theorem Row.ends (r : Row n m L c) : (∃ S : Nat, n.S = S ∧ c.S = S ∧ S < m) ∧ (∃ T : Nat, n.T = T ∧ c.T = T ∧ T < m) ∧ n.S ≠ n.T ∧ c.N = m := by
 have hz := Z2s r.chk
 simp only [Z39, decide_eq_true_eq] at hz
 have h1 := r.hm
 have h2 := r.is.hS
 have h3 := r.is.hT
 exact ⟨⟨n.S.toNat, by omega, by omega, by omega⟩, ⟨n.T.toNat, by omega, by omega, by omega⟩, hz.2.2.1.2.2, r.is.hN⟩
theorem Row.caps (r : Row n m L c) : ∀ i, i < n.Arcs.length → 0 ≤ (n.Arcs.getD i default).cap ∧ (n.Arcs.getD i default).cap ≤ 4611686018427387904 := fun i hi => by
 have h0 := Zdt r.chk i hi
 have h1 := Ziz r.chk (i + 1) hi
 have h2 := Ziz r.chk i (by omega)
 simp only [totC] at h1
 omega
theorem Row.at (r : Row n m L c) {j : Nat} (hj : j < L) : ∃ i s, i < n.Arcs.length ∧ (n.Arcs.getD i default).fr ≠ (n.Arcs.getD i default).to ∧ pos n.Arcs i s = j ∧ c.Head.getD j 0 = (hd c j : Nat) ∧ (hd c j : Int) = vtx (n.Arcs.getD i default) (!s) ∧ (tl c j : Int) = vtx (n.Arcs.getD i default) s ∧
    c.Rev.getD j 0 = (rv c j : Nat) ∧ rv c j = pos n.Arcs i (!s) ∧ c.Cap.getD j 0 = (if s then 0 else (n.Arcs.getD i default).cap) ∧ c.Arc.getD j 0 = i ∧ bk c j = s := by
  obtain ⟨i, s, hi, hne, hp, q1, q2, q3, q4, q5⟩ := r.is.ok.place (by rw [r.hL]; exact hj)
  have hv := r.he i hi (!s)
  have hv2 := r.he i hi s
  have hr : rv c j = pos n.Arcs i (!s) := by unfold rv; rw [q2, Int.toNat_natCast]
  refine ⟨i, s, hi, hne, hp, by unfold hd; omega, by unfold hd; omega, ?_, by unfold rv; omega, hr, q3, q4, q5⟩
  unfold tl hd
  rw [hr, (r.is.ok.hat i hi hne (!s)).1, Bool.not_not]; omega
theorem Row.head (r : Row n m L c) {j : Nat} (hj : j < L) : c.Head.getD j 0 = (hd c j : Nat) ∧ hd c j < m := by
 obtain ⟨i, s, hi, hne, hp, q1, q2, q3, q4, q5, q6, q7, q8⟩ := r.at hj
 have hv := r.he i hi (!s)
 exact ⟨q1, by omega⟩
theorem Row.rev (r : Row n m L c) {j : Nat} (hj : j < L) : c.Rev.getD j 0 = (rv c j : Nat) ∧ rv c j < L ∧ rv c (rv c j) = j ∧ rv c j ≠ j := by
 obtain ⟨i, s, hi, hne, hp, q1, q2, q3, q4, q5, q6, q7, q8⟩ := r.at hj
 have hq : pos n.Arcs i (!s) < L := by rw [← r.hL]; exact Zgt hi hne r.he
 refine ⟨q4, by rw [q5]; exact hq, ?_, fun e => ?_⟩
 ·
  have := (r.is.ok.hat i hi hne (!s)).2.1
  rw [q5]; unfold rv; rw [this, Int.toNat_natCast, Bool.not_not, hp]
 ·
  have := (Zae r.he hi hi hne hne (q5.symm.trans (e.trans hp.symm))).2
  cases s <;> cases this
theorem Row.tlh (r : Row n m L c) {j : Nat} (hj : j < L) : tl c j < m ∧ tl c (rv c j) = hd c j ∧ hd c (rv c j) = tl c j ∧ tl c j ≠ hd c j := by
 obtain ⟨i, s, hi, hne, hp, q1, q2, q3, q4, q5, q6, q7, q8⟩ := r.at hj
 have hv := r.he i hi s
 refine ⟨by omega, ?_, rfl, fun e => ?_⟩
 · unfold tl; rw [(r.rev hj).2.2.1]
 ·
  apply hne
  have : vtx (n.Arcs.getD i default) s = vtx (n.Arcs.getD i default) (!s) := by omega
  cases s <;> simpa [vtx, eq_comm] using this
theorem Row.back (r : Row n m L c) {j : Nat} (hj : j < L) : bk c (rv c j) = !bk c j := by
 obtain ⟨i, s, hi, hne, hp, q1, q2, q3, q4, q5, q6, q7, q8⟩ := r.at hj
 unfold bk at q8 ⊢
 rw [q5, (r.is.ok.hat i hi hne (!s)).2.2.2.2, q8]
theorem Row.first (r : Row n m L c) : (∀ v, v ≤ m → c.First.getD v 0 = (fs c v : Nat) ∧ fs c v = Z17 n.Arcs v) ∧ fs c 0 = 0 ∧ fs c m = L ∧ ∀ v, v < m → fs c v ≤ fs c (v + 1) ∧ fs c (v + 1) ≤ L := by
 have h : ∀ v, v ≤ m → c.First.getD v 0 = (fs c v : Nat) ∧ fs c v = Z17 n.Arcs v := fun v hv => by
  have := r.is.ok.hf v hv
  unfold fs; rw [this, Int.toNat_natCast]; exact ⟨rfl, rfl⟩
 refine ⟨h, by rw [(h 0 (by omega)).2]; rfl, by rw [(h m (Nat.le_refl _)).2]; exact r.hL, fun v hv => ?_⟩
 rw [(h v (by omega)).2, (h (v + 1) (by omega)).2, ← r.hL]
 exact ⟨Z67 (by omega), Z67 (by omega)⟩
theorem Row.range (r : Row n m L c) {j u : Nat} (hj : j < L) (hu : u < m) : (fs c u ≤ j ∧ j < fs c (u + 1)) ↔ tl c j = u := by
 obtain ⟨i, s, hi, hne, hp, q1, q2, q3, q4, q5, q6, q7, q8⟩ := r.at hj
 have hv := r.he i hi s
 have f1 := (r.first.1 u (by omega)).2
 have f2 := (r.first.1 (u + 1) (by omega)).2
 constructor
 ·
  rintro ⟨h1, h2⟩
  have := (pos_row (v := u) hi hne hv.1 (by omega) (by omega)).1
  omega
 ·
  intro h
  have hcl := Zcl (s := s) hi hne hv.1
  have hpos : pos n.Arcs i s = Z17 n.Arcs (vtx (n.Arcs.getD i default) s).toNat + cnt n.Arcs (vtx (n.Arcs.getD i default) s).toNat i := rfl
  have e : (vtx (n.Arcs.getD i default) s).toNat = u := by omega
  rw [e] at hcl hpos
  have hb1 : Z17 n.Arcs (u + 1) = Z17 n.Arcs u + cnt n.Arcs u n.Arcs.length := rfl
  omega
theorem Row.cap (r : Row n m L c) {j : Nat} (hj : j < L) : 0 ≤ c.Cap.getD j 0 ∧ c.Cap.getD j 0 + c.Cap.getD (rv c j) 0 = cp c j ∧ cp c (rv c j) = cp c j ∧ 0 ≤ cp c j ∧ cp c j ≤ 4611686018427387904 ∧ (bk c j = true → c.Cap.getD j 0 = 0) := by
 obtain ⟨i, s, hi, hne, hp, q1, q2, q3, q4, q5, q6, q7, q8⟩ := r.at hj
 have hc := r.caps i hi
 have h2 : c.Cap.getD (rv c j) 0 = if (!s) then 0 else (n.Arcs.getD i default).cap := by rw [q5]; exact (r.is.ok.hat i hi hne (!s)).2.2.1
 have h3 := (r.rev hj).2.2.1
 unfold cp
 rw [h3, q6, h2, q8]
 cases s
 · simp only [Bool.not_false, if_true, Bool.false_eq_true, if_false, false_implies, and_true]; omega
 · simp only [Bool.not_true, if_true, Bool.false_eq_true, if_false, true_implies, and_true]; omega
theorem Row.cpPos (r : Row n m L c) {i : Nat} (hi : i < n.Arcs.length) (hne : (n.Arcs.getD i default).fr ≠ (n.Arcs.getD i default).to) (s : Bool) : cp c (pos n.Arcs i s) = (n.Arcs.getD i default).cap ∧ rv c (pos n.Arcs i s) = pos n.Arcs i (!s) ∧ pos n.Arcs i s < L := by
 have z := r.is.ok.hat i hi hne s
 have z2 := r.is.ok.hat i hi hne (!s)
 have hc := r.caps i hi
 have hr : rv c (pos n.Arcs i s) = pos n.Arcs i (!s) := by unfold rv; rw [z.2.1, Int.toNat_natCast]
 refine ⟨?_, hr, by rw [← r.hL]; exact Zgt hi hne r.he⟩
 unfold cp
 rw [hr, z.2.2.1, z2.2.2.1]
 cases s <;> simp only [Bool.not_true, Bool.not_false, if_true, Bool.false_eq_true, if_false] <;> omega
def flN (al : List Arc) (R : List Int) : List Int := (List.range al.length).map fun i => if (al.getD i default).fr = (al.getD i default).to then 0 else R.getD (pos al i true) 0
theorem flN_len (al : List Arc) (R : List Int) : (flN al R).length = al.length := by simp [flN]
theorem Zer {al : List Arc} {R : List Int} {i : Nat} (h : i < al.length) : (flN al R).getD i 0 = if (al.getD i default).fr = (al.getD i default).to then 0 else R.getD (pos al i true) 0 := by
 unfold flN
 rw [List.getD_eq_getElem?_getD, List.getElem?_map, List.getElem?_range h]; rfl
structure ResOK (n : Net) (m L : Nat) (c : Csr) (R X : List Int) : Prop where
  lr : R.length = L
  lx : X.length = m
  res : ∀ j, j < L → 0 ≤ R.getD j 0 ∧ R.getD j 0 + R.getD (rv c j) 0 = cp c j
  ex : ∀ v : Nat, v < m → X.getD v 0 = ex n.Arcs (flN n.Arcs R) v n.Arcs.length
theorem Zhp {R : List Int} (r : Row n m L c) (h : ∀ j, j < L → 0 ≤ R.getD j 0 ∧ R.getD j 0 + R.getD (rv c j) 0 = cp c j) : FwithinP n (flN n.Arcs R) := by
 refine ⟨r.chk, flN_len _ _, fun i hi => ?_⟩
 rw [Zer hi]
 have hc := r.caps i hi
 by_cases e : (n.Arcs.getD i default).fr = (n.Arcs.getD i default).to
 · rw [if_pos e]; omega
 ·
  rw [if_neg e]
  obtain ⟨a1, a2, a3⟩ := r.cpPos hi e true
  have h1 := h _ a3
  have h2 := h _ (r.rev a3).2.1
  omega
theorem ResOK.within {R X : List Int} (h : ResOK n m L c R X) (r : Row n m L c) : FwithinP n (flN n.Arcs R) := Zhp r h.res
theorem Zc6 {f : List Int} (hw : FwithinP n f) (v : Int) : -4611686018427387904 ≤ ex n.Arcs f v n.Arcs.length ∧ ex n.Arcs f v n.Arcs.length ≤ 4611686018427387904 := by
 have := ex_le (al := n.Arcs) v (fun i hi => (hw.2.2 i hi).1) n.Arcs.length (Nat.le_refl _)
 have := hw.tot n.Arcs.length (Nat.le_refl _)
 omega
def mvR (c : Csr) (R : List Int) (j : Nat) (d : Int) : List Int := (R.set j (R.getD j 0 - d)).set (rv c j) (R.getD (rv c j) 0 + d)
def mvX (c : Csr) (X : List Int) (j : Nat) (d : Int) : List Int := (X.set (tl c j) (X.getD (tl c j) 0 - d)).set (hd c j) (X.getD (hd c j) 0 + d)
theorem Zen {R : List Int} {j k : Nat} {d : Int} (r : Row n m L c) (hl : R.length = L) (hj : j < L) : (mvR c R j d).getD k 0 = if k = rv c j then R.getD (rv c j) 0 + d else if k = j then R.getD j 0 - d else R.getD k 0 := by
 have := r.rev hj
 unfold mvR
 rw [Zab, Zab, List.length_set]
 by_cases c1 : k = rv c j
 · rw [if_pos ⟨c1.symm, by omega⟩, if_pos c1]
 ·
  rw [if_neg fun h => c1 h.1.symm, if_neg c1]
  by_cases c2 : k = j
  · rw [if_pos ⟨c2.symm, by omega⟩, if_pos c2]
  · rw [if_neg fun h => c2 h.1.symm, if_neg c2]
theorem mvX_getD {X : List Int} {j k : Nat} {d : Int} (r : Row n m L c) (hl : X.length = m) (hj : j < L) : (mvX c X j d).getD k 0 = X.getD k 0 - (if tl c j = k then d else 0) + (if hd c j = k then d else 0) := by
 have h1 := r.tlh hj
 have h2 := r.head hj
 unfold mvX
 rw [Zab, Zab, List.length_set]
 by_cases c1 : hd c j = k
 ·
  subst c1
  rw [if_pos ⟨rfl, by omega⟩, if_neg h1.2.2.2, if_pos rfl]; omega
 ·
  rw [if_neg fun h => c1 h.1]
  by_cases c2 : tl c j = k
  ·
   subst c2
   rw [if_pos ⟨rfl, by omega⟩, if_pos rfl, if_neg c1]; omega
  · rw [if_neg fun h => c2 h.1, if_neg c2, if_neg c1]; omega
theorem ex_bump {al : List Arc} {f g : List Int} {i : Nat} {δ : Int} {K : Nat} (v : Int) (hi : i < K) (h : ∀ k, k < K → g.getD k 0 = f.getD k 0 + if k = i then δ else 0) :
    ex al g v K = ex al f v K + ((if (al.getD i default).to = v then δ else 0) - (if (al.getD i default).fr = v then δ else 0)) := by
  have key : ∀ k, k ≤ K → ex al g v k = ex al f v k + if i < k then ((if (al.getD i default).to = v then δ else 0) - (if (al.getD i default).fr = v then δ else 0)) else 0 := by
    intro k
    induction k with
    | zero => intro _; rw [if_neg (by omega)]; rfl
    | succ k ih =>
      intro hk
      simp only [ex]
      rw [ih (by omega), h k (by omega)]
      by_cases e : k = i
      · subst e
        rw [if_neg (show ¬ k < k by omega), if_pos rfl, if_pos (show k < k + 1 by omega)]
        split <;> split <;> omega
      · rw [if_neg e]
        by_cases e2 : i < k
        · rw [if_pos e2, if_pos (show i < k + 1 by omega)]; simp only [Int.add_zero]; omega
        · rw [if_neg e2, if_neg (show ¬ i < k + 1 by omega)]; simp only [Int.add_zero]
  rw [key K (Nat.le_refl _), if_pos hi]
theorem ResOK.move {R X : List Int} {j : Nat} {d : Int} (h : ResOK n m L c R X) (r : Row n m L c) (hj : j < L) (d0 : 0 ≤ d) (d1 : d ≤ R.getD j 0) : ResOK n m L c (mvR c R j d) (mvX c X j d) := by
 have hr := r.rev hj
 have hlr := h.lr
 have hlx := h.lx
 refine ⟨by simp [mvR, hlr], by simp [mvX, hlx], fun k hk => ?_, fun v hv => ?_⟩
 ·
  have hk2 := r.rev hk
  have a := h.res k hk
  have a2 := h.res _ hr.2.1
  have a3 := h.res j hj
  have a4 := r.cap hj
  rw [Zen r hlr hj, Zen r hlr hj]
  by_cases c1 : k = rv c j
  ·
   subst c1
   rw [if_pos rfl, hr.2.2.1, if_neg fun e => hr.2.2.2 e.symm, if_pos rfl, a4.2.2.1]; omega
  ·
   by_cases c2 : k = j
   ·
    subst c2
    rw [if_neg c1, if_pos rfl, if_pos rfl]; omega
   ·
    have c3 : rv c k ≠ rv c j := fun e => c2 (by rw [← hk2.2.2.1, e, hr.2.2.1])
    have c4 : rv c k ≠ j := fun e => c1 (by rw [← e, hk2.2.2.1])
    rw [if_neg c1, if_neg c2, if_neg c3, if_neg c4]; exact a
 ·
  obtain ⟨i, s, hi, hne, hp, q1, q2, q3, q4, q5, q6, q7, q8⟩ := r.at hj
  rw [mvX_getD r hlx hj, h.ex v hv, ex_bump (f := flN n.Arcs R) (g := flN n.Arcs (mvR c R j d)) (i := i) (δ := if s then -d else d) (v : Int) hi fun k hk => ?_]
  ·
   have t1 : (tl c j = v) ↔ vtx (n.Arcs.getD i default) s = (v : Int) := by rw [← q3]; omega
   have t2 : (hd c j = v) ↔ vtx (n.Arcs.getD i default) (!s) = (v : Int) := by rw [← q2]; omega
   simp only [t1, t2]
   cases s <;> simp only [vtx, Bool.not_false, Bool.not_true, if_true, if_false, Bool.false_eq_true] <;> split <;> split <;> omega
  ·
   rw [Zer hk, Zer hk]
   by_cases e : (n.Arcs.getD k default).fr = (n.Arcs.getD k default).to
   ·
    have : k ≠ i := fun e2 => by subst e2; exact hne e
    rw [if_pos e, if_pos e, if_neg this]; rfl
   ·
    rw [if_neg e, if_neg e, Zen r hlr hj]
    by_cases e2 : k = i
    ·
     subst e2
     cases s
     ·
      have b1 : pos n.Arcs k true = rv c j := by rw [q5]; rfl
      rw [if_pos b1, if_pos rfl, b1]; rfl
     ·
      have b1 : pos n.Arcs k true ≠ rv c j := fun e3 => by rw [q5] at e3; have := (Zae r.he hk hk e e e3).2; cases this
      rw [if_neg b1, if_pos hp, if_pos rfl, hp]; rfl
    ·
     have b1 : pos n.Arcs k true ≠ rv c j := fun e3 => by rw [q5] at e3; exact e2 (Zae r.he hk hi e hne e3).1
     have b2 : pos n.Arcs k true ≠ j := fun e3 => by rw [← hp] at e3; exact e2 (Zae r.he hk hi e hne e3).1
     rw [if_neg b1, if_neg b2, if_neg e2, Int.add_zero]
end row
end Go.Acq
namespace Go.Acq
open Go
set_option linter.unusedSimpArgs false
set_option linter.unusedVariables false
def Zeo (al : List Arc) (v : Nat) : Nat → List Int
  | 0 => []
  | k + 1 => Zeo al v k ++ (if (al.getD k default).to = (v : Int) then [(k : Int)] else [])
theorem intoK_mem {al : List Arc} {v : Nat} {x : Int} : ∀ {k : Nat}, x ∈ Zeo al v k ↔ ∃ i : Nat, i < k ∧ x = i ∧ (al.getD i default).to = (v : Int)
 | 0 => by simp [Zeo]
 | k + 1 => by
  rw [Zeo, List.mem_append, intoK_mem (k := k)]
  constructor
  ·
   rintro (⟨i, h1, h2⟩ | h)
   · exact ⟨i, by omega, h2⟩
   ·
    split at h
    · rename_i h2; rw [List.mem_singleton] at h; exact ⟨k, by omega, h, h2⟩
    · cases h
  ·
   rintro ⟨i, h1, h2, h3⟩
   rcases Nat.lt_or_ge i k with h | h
   · exact .inl ⟨i, h, h2, h3⟩
   ·
    have e : i = k := by omega
    subst e
    exact .inr (by rw [if_pos h3, h2]; exact .head _)
theorem Zcg {al : List Arc} {v : Nat} : ∀ k, (Zeo al v k).length ≤ k
 | 0 => Nat.le_refl _
 | k + 1 => by
  have := Zcg (al := al) (v := v) k
  rw [Zeo, List.length_append]
  split <;> simp <;> omega
def IntoIs (n : Net) (m : Nat) (arcs : List (List Int)) : Prop := arcs.length = m ∧ ∀ v, v < m → arcs.getD v [] = Zeo n.Arcs v n.Arcs.length
theorem IntoIs.at {n : Net} {m : Nat} {arcs : List (List Int)} (h : IntoIs n m arcs) {v q : Nat} (hv : v < m) (hq : q < (arcs.getD v []).length) :
    ∃ k : Nat, (arcs.getD v []).getD q 0 = k ∧ k < n.Arcs.length ∧ (n.Arcs.getD k default).to = (v : Int) := by
  have := Z65 hq 0
  rw [h.2 v hv] at this
  obtain ⟨i, h1, h2, h3⟩ := intoK_mem.1 this
  exact ⟨i, by rw [h.2 v hv]; exact h2, h1, h3⟩
theorem IntoIs.in {n : Net} {m : Nat} {arcs : List (List Int)} (h : IntoIs n m arcs) {v k : Nat} (hv : v < m) (hk : k < n.Arcs.length) (he : (n.Arcs.getD k default).to = (v : Int)) :
    ∃ q, q < (arcs.getD v []).length ∧ (arcs.getD v []).getD q 0 = k := by
  have : (k : Int) ∈ arcs.getD v [] := by rw [h.2 v hv]; exact intoK_mem.2 ⟨k, hk, rfl, he⟩
  obtain ⟨q, hq, e⟩ := List.getElem_of_mem this
  exact ⟨q, hq, by rw [List.getD_eq_getElem?_getD, List.getElem?_eq_getElem hq]; exact e⟩
theorem IntoIs.len {n : Net} {m : Nat} {arcs : List (List Int)} (h : IntoIs n m arcs) {v : Nat} (hv : v < m) : (arcs.getD v []).length ≤ n.Arcs.length := by
 rw [h.2 v hv]; exact Zcg _
theorem Zje {al : List Arc} {f : List Int} {v : Int} : ∀ {k : Nat}, (∀ i, i < k → 0 ≤ f.getD i 0) → (∀ i, i < k → (al.getD i default).to = v → f.getD i 0 = 0) → ex al f v k ≤ 0
 | 0, _, _ => Int.le_refl _
 | k + 1, h0, h => by
  have ih := Zje (k := k) (fun i hi => h0 i (by omega)) fun i hi => h i (by omega)
  have h1 := h0 k (by omega)
  have h2 := h k (by omega)
  rw [ex]
  by_cases e : (al.getD k default).to = v
  · rw [if_pos e, h2 e]; split <;> omega
  · rw [if_neg e]; split <;> omega
structure GB (n : Net) (m : Nat) (f g X : List Int) : Prop where
  len : g.length = n.Arcs.length
  le : ∀ i, i < n.Arcs.length → 0 ≤ g.getD i 0 ∧ g.getD i 0 ≤ f.getD i 0
  lx : X.length = m
  ex : ∀ v : Nat, v < m → X.getD v 0 = ex n.Arcs g v n.Arcs.length
  nn : ∀ v : Nat, v < m → (v : Int) ≠ n.S → 0 ≤ X.getD v 0
  atT : ∀ v : Nat, v < m → (v : Int) = n.T → Acq.ex n.Arcs f v n.Arcs.length ≤ X.getD v 0 ∧ ((∀ i, i < n.Arcs.length → (n.Arcs.getD i default).fr = n.T → f.getD i 0 = 0) → X.getD v 0 = Acq.ex n.Arcs f v n.Arcs.length)
  same : (∀ v : Nat, v < m → (v : Int) ≠ n.S → (v : Int) ≠ n.T → Acq.ex n.Arcs f v n.Arcs.length = 0) → g = f
section
variable {n : Net} {m : Nat} {f g X : List Int}
theorem GB.within (h : GB n m f g X) (hw : FwithinP n f) : FwithinP n g := ⟨hw.1, h.len, fun i hi => by have := h.le i hi; have := hw.2.2 i hi; omega⟩
theorem GB.start (hf : f.length = n.Arcs.length) (h0 : ∀ i, i < n.Arcs.length → 0 ≤ f.getD i 0) (hX : X.length = m) (he : ∀ v : Nat, v < m → X.getD v 0 = Acq.ex n.Arcs f v n.Arcs.length) (hn : ∀ v : Nat, v < m → (v : Int) ≠ n.S → 0 ≤ Acq.ex n.Arcs f v n.Arcs.length) : GB n m f f X :=
 ⟨hf, fun i hi => ⟨h0 i hi, Int.le_refl _⟩, hX, he, fun v hv hS => by rw [he v hv]; exact hn v hv hS, fun v hv hT => by rw [he v hv]; exact ⟨Int.le_refl _, fun _ => rfl⟩, fun _ => rfl⟩
theorem Zch {u v w : Nat} {d : Int} (hv : v < X.length) (hu : u < X.length) : ((X.set v (X.getD v 0 - d)).set u ((X.set v (X.getD v 0 - d)).getD u 0 + d)).getD w 0 = X.getD w 0 - (if v = w then d else 0) + (if u = w then d else 0) := by
 rw [Zab, List.length_set]
 by_cases e : u = w
 ·
  subst e
  rw [if_pos ⟨rfl, hu⟩, if_pos rfl, Zab]
  by_cases e2 : v = u
  ·
   subst e2
   rw [if_pos ⟨rfl, hv⟩, if_pos rfl]
  · rw [if_neg (fun h => e2 h.1), if_neg e2]; omega
 ·
  rw [if_neg (fun h => e h.1), if_neg e, Zab]
  by_cases e2 : v = w
  ·
   subst e2
   rw [if_pos ⟨rfl, hv⟩, if_pos rfl]; omega
  · rw [if_neg (fun h => e2 h.1), if_neg e2]; omega
theorem GB.give (h : GB n m f g X) {i u v : Nat} {d : Int} (hi : i < n.Arcs.length) (hv : v < m) (hu : u < m) (hto : (n.Arcs.getD i default).to = (v : Int)) (hfr : (n.Arcs.getD i default).fr = (u : Int))
    (hS : (v : Int) ≠ n.S) (hT : (v : Int) ≠ n.T) (h0 : 0 ≤ d) (h1 : d ≤ X.getD v 0) (h2 : d ≤ g.getD i 0) :
    GB n m f (g.set i (g.getD i 0 - d)) ((X.set v (X.getD v 0 - d)).set u ((X.set v (X.getD v 0 - d)).getD u 0 + d)) := by
  have hl := h.len
  have hx := h.lx
  have hg := fun w => Zch (X := X) (u := u) (v := v) (w := w) (d := d) (by omega) (by omega)
  refine ⟨by rw [List.length_set]; exact hl, fun j hj => ?_, by simp [hx], fun w hw => ?_, fun w hw hwS => ?_, fun w hw hwT => ?_, fun hz => ?_⟩
  · have := h.le j hj
    have := h.le i hi
    by_cases e : i = j
    · subst e; rw [Z5s (by omega)]; omega
    · rw [Z3n e]; omega
  · rw [hg, Zes (by omega), if_pos hi, hto, hfr, h.ex w hw]
    by_cases e1 : v = w <;> by_cases e2 : u = w
    · rw [if_pos e1, if_pos e2, if_pos (by omega), if_pos (by omega)]; omega
    · rw [if_pos e1, if_neg e2, if_pos (by omega), if_neg (by omega)]; omega
    · rw [if_neg e1, if_pos e2, if_neg (by omega), if_pos (by omega)]; omega
    · rw [if_neg e1, if_neg e2, if_neg (by omega), if_neg (by omega)]; omega
  · have := h.nn w hw hwS
    rw [hg]
    by_cases e : v = w
    · subst e; rw [if_pos rfl]; split <;> omega
    · rw [if_neg e]; split <;> omega
  · have h3 := h.atT w hw hwT
    rw [hg, if_neg (by omega)]
    refine ⟨by split <;> omega, fun hz => ?_⟩
    have h4 := h3.2 hz
    by_cases e : u = w
    · have h5 := hz i hi (by omega)
      have := h.le i hi
      rw [if_pos e]; omega
    · rw [if_neg e]; omega
  · have e := h.same hz
    have h3 := hz v hv hS hT
    have h4 := h.ex v hv
    rw [e] at h4
    have h5 : d = 0 := by omega
    subst h5
    rw [← e]
    refine Zhv 0 (by rw [List.length_set]) fun j hj => ?_
    by_cases e2 : i = j
    · subst e2; rw [Z5s (by omega)]; omega
    · rw [Z3n e2]
def DoneP (n : Net) (m : Nat) (o X : List Int) (p : Nat) : Prop := ∀ q, p ≤ q → q < m → ∀ v : Nat, o.getD q 0 = (v : Int) → (v : Int) ≠ n.S → (v : Int) ≠ n.T → X.getD v 0 = 0
theorem DoneP.give {o : List Int} {p : Nat} (hd : DoneP n m o X (p + 1)) (ho : Topo n m f o) (hp : p < m) (h : GB n m f g X) {i u v : Nat} {d : Int} (hv : v < m) (hov : o.getD p 0 = (v : Int)) (hu : u < m) (hi : i < n.Arcs.length) (hto : (n.Arcs.getD i default).to = (v : Int)) (hfr : (n.Arcs.getD i default).fr = (u : Int))
    (h0 : 0 ≤ d) (h2 : d ≤ g.getD i 0) : DoneP n m o ((X.set v (X.getD v 0 - d)).set u ((X.set v (X.getD v 0 - d)).getD u 0 + d)) (p + 1) ∧ (0 < d → u ≠ v) := by
  have hx := h.lx
  have hnd := ho.2.1.nd
  have hol := ho.1
  have inj : ∀ q q', q < m → q' < m → o.getD q 0 = o.getD q' 0 → q = q' := fun q q' hq hq' e => by
    rw [List.getD_eq_getElem?_getD, List.getElem?_eq_getElem (by omega), List.getD_eq_getElem?_getD, List.getElem?_eq_getElem (by omega)] at e
    exact (List.getElem_inj hnd).1 e
  have hb : 0 < d → ∃ j, j < p ∧ o.getD j 0 = (u : Int) := fun hd0 => by
    have := h.le i hi
    obtain ⟨j, hj, e⟩ := ho.2.2 p (by omega) i hi (by omega) (hto.trans hov.symm)
    exact ⟨j, hj, e.trans hfr⟩
  refine ⟨fun q h1 h3 w hw hS hT => ?_, fun hd0 e => ?_⟩
  · rw [Zch (by omega) (by omega), hd q h1 h3 w hw hS hT]
    have e1 : v ≠ w := fun e => by
      subst e
      have := inj p q hp h3 (hov.trans hw.symm)
      omega
    rw [if_neg e1]
    by_cases e2 : u = w
    · subst e2
      rw [if_pos rfl]
      rcases Int.lt_or_le 0 d with h4 | h4
      · obtain ⟨j, hj, e⟩ := hb h4
        have := inj j q (by omega) h3 (e.trans hw.symm)
        omega
      · omega
    · rw [if_neg e2]; omega
  · obtain ⟨j, hj, e2⟩ := hb hd0
    subst e
    have := inj j p (by omega) hp (e2.trans hov.symm)
    omega
theorem GB.done (h : GB n m f g X) {v : Nat} (hv : v < m) (hS : (v : Int) ≠ n.S) (hz : X.getD v 0 = 0 ∨ ∀ i, i < n.Arcs.length → (n.Arcs.getD i default).to = (v : Int) → g.getD i 0 = 0) : X.getD v 0 = 0 := by
 rcases hz with h1 | h1
 · exact h1
 ·
  have h2 := Zje (al := n.Arcs) (f := g) (v := v) (fun i hi => (h.le i hi).1) h1
  have := h.nn v hv hS
  have := h.ex v hv
  omega
structure BackP (n : Net) (f g : List Int) : Prop where
  len : g.length = n.Arcs.length
  le : ∀ i, i < n.Arcs.length → 0 ≤ g.getD i 0 ∧ g.getD i 0 ≤ f.getD i 0
  all : Zkv n g (fun x => x = 0) [n.S, n.T]
  atT : ex n.Arcs f n.T n.Arcs.length ≤ ex n.Arcs g n.T n.Arcs.length
  eqT : (∀ i, i < n.Arcs.length → (n.Arcs.getD i default).fr = n.T → f.getD i 0 = 0) → ex n.Arcs g n.T n.Arcs.length = ex n.Arcs f n.T n.Arcs.length
  acyc : Acyc n g
  same : Acyc n f → Zkv n f (fun x => x = 0) [n.S, n.T] → g = f
theorem Acyc.le (h : Acyc n f) (hg : ∀ i, i < n.Arcs.length → g.getD i 0 ≤ f.getD i 0) : Acyc n g := by
 obtain ⟨ρ, hρ⟩ := h
 exact ⟨ρ, fun k hk h0 => hρ k hk (by have := hg k hk; omega)⟩
end
end Go.Acq
namespace Go.Acq
open Go
set_option linter.unusedSimpArgs false
set_option linter.unusedVariables false
def owK (n : Net) (f : List Int) : Nat → Int
  | 0 => 0
  | k + 1 => owK n f k + (if (k : Int) ≠ n.S ∧ (k : Int) ≠ n.T then ex n.Arcs f k n.Arcs.length else 0)
theorem owK_eq {n : Net} {m : Nat} {f : List Int} (he : Z5b m n.Arcs) (hS : 0 ≤ n.S) (hT : 0 ≤ n.T) (hne : n.S ≠ n.T) : ∀ k : Nat, owK n f k = part n.Arcs f k n.Arcs.length - (if n.S < k then ex n.Arcs f n.S n.Arcs.length else 0) - (if n.T < k then ex n.Arcs f n.T n.Arcs.length else 0)
 | 0 => by rw [owK, show ((0 : Nat) : Int) = 0 from rfl, Zfe he _ (Nat.le_refl _), if_neg (by omega), if_neg (by omega)]; rfl
 | k + 1 => by
  rw [owK, owK_eq he hS hT hne k, Int.natCast_succ, Zfd]
  by_cases e1 : (k : Int) = n.S
  ·
   rw [if_neg (show ¬((k : Int) ≠ n.S ∧ (k : Int) ≠ n.T) from fun h => h.1 e1), if_neg (show ¬ n.S < (k : Int) by omega), if_pos (show n.S < (k : Int) + 1 by omega), e1]
   by_cases e2 : n.T < (k : Int)
   · rw [if_pos (by omega), if_pos (by omega)]; omega
   · rw [if_neg (by omega), if_neg (by omega)]; omega
  ·
   by_cases e2 : (k : Int) = n.T
   ·
    rw [if_neg (show ¬((k : Int) ≠ n.S ∧ (k : Int) ≠ n.T) from fun h => h.2 e2), if_neg (show ¬ n.T < (k : Int) by omega), if_pos (show n.T < (k : Int) + 1 by omega), e2]
    by_cases e3 : n.S < (k : Int)
    · rw [if_pos (by omega), if_pos (by omega)]; omega
    · rw [if_neg (by omega), if_neg (by omega)]; omega
   ·
    rw [if_pos (show (k : Int) ≠ n.S ∧ (k : Int) ≠ n.T from ⟨e1, e2⟩)]
    have h1 : (n.S < (k : Int) + 1) = (n.S < (k : Int)) := by apply propext; omega
    have h2 : (n.T < (k : Int) + 1) = (n.T < (k : Int)) := by apply propext; omega
    simp only [h1, h2]; omega
theorem Zgw {n : Net} {f : List Int} {m : Nat} (h : ∀ v : Nat, v < m → (v : Int) ≠ n.S → 0 ≤ ex n.Arcs f v n.Arcs.length) {j : Nat} : ∀ k, j ≤ k → k ≤ m → owK n f j ≤ owK n f k
 | 0, hj, _ => by rw [show j = 0 by omega]; exact Int.le_refl _
 | k + 1, hj, hk => by
  by_cases e : j = k + 1
  · rw [e]; exact Int.le_refl _
  ·
   have := Zgw h (j := j) k (by omega) (by omega)
   rw [owK]
   split
   · rename_i h2; have := h k (by omega) h2.1; omega
   · omega
end Go.Acq
namespace Go.Acq
open Go
set_option linter.unusedSimpArgs false
set_option linter.unusedVariables false
theorem aw23 : Z47 = some true := by decide +kernel
section
variable {n : Net} {m : Nat} {f : List Int} {arcs : List (List Int)}
theorem s_into (hm : n.N = m) (hm2 : m ≤ 4096) (he : Z5b m n.Arcs) (hl : n.Arcs.length ≤ 16384) : Ok (Z7v n) (fun arcs => IntoIs n m arcs) := by
 unfold Z7v
 rw [hm]
 refine Ok.gd.2 ⟨(by omega), Ok.bind.2 ?_⟩
 simp only [Int.toNat_natCast]
 refine Z86 (fun s => ∃ k : Nat, s.2 = k ∧ k ≤ n.Arcs.length ∧ s.1.length = m ∧ ∀ v, v < m → s.1.getD v [] = Zeo n.Arcs v k) (fun s => (n.Arcs.length - s.2).toNat) ⟨0, rfl, by omega, List.length_replicate, fun v _ => by rw [Z1x]; rfl⟩ (by unfold Z40; simp only; omega) ?_
 rintro ⟨xs, x⟩ ⟨k, h1, hk, h3, h4⟩ P next exit
 simp only at h1 h3 h4 next ⊢
 subst h1
 unfold Z5v
 simp only [Int.toNat_natCast]
 refine Ok.ite.2 ⟨fun hx => ?_, fun hx => ?_⟩
 ·
  have hkl : k < n.Arcs.length := by omega
  have e0 := he k hkl true
  simp only [vtx, if_true] at e0
  obtain ⟨p, hp⟩ : ∃ p : Nat, (n.Arcs.getD k default).to = p := ⟨(n.Arcs.getD k default).to.toNat, by omega⟩
  rw [hp] at e0
  have h5 := h4 p (by omega)
  have h6 := Zcg (al := n.Arcs) (v := p) k
  simp only [hp, Int.toNat_natCast]
  refine Ok.gd.2 ⟨(by constructor <;> omega), Ok.gd.2 ⟨(by constructor <;> omega), Ok.gd.2 ⟨?_, Ok.gd.2 ⟨(by constructor <;> omega), Ok.some.2 (next _ ⟨k + 1, by simp, by omega, by simp [h3], fun v hv => ?_⟩ (by simp only; omega))⟩⟩⟩⟩
  · rw [List.length_append, h5]; simp only [List.length_singleton]; constructor <;> omega
  ·
   rw [Zab, h3, h5, Zeo]
   by_cases e : p = v
   · subst e; rw [if_pos ⟨rfl, by omega⟩, if_pos hp]
   · rw [if_neg (fun h => e h.1), if_neg (fun h => by rw [hp] at h; omega), List.append_nil]; exact h4 v hv
 ·
  refine Ok.some.2 (exit _ ?_)
  unfold Z6x
  exact Ok.some.2 ⟨h3, fun v hv => by rw [h4 v hv, show k = n.Arcs.length by omega]⟩
theorem DoneP.skip {o X : List Int} {p v : Nat} (hD : DoneP n m o X (p + 1)) (hov : o.getD p 0 = (v : Int)) (h : (v : Int) ≠ n.S → (v : Int) ≠ n.T → X.getD v 0 = 0) : DoneP n m o X p := fun q h1 h2 w hw hS hT => by
 rcases Nat.lt_or_ge p q with h3 | h3
 · exact hD q (by omega) h2 w hw hS hT
 ·
  have e : q = p := by omega
  subst e
  have e : v = w := by have := hov.symm.trans hw; omega
  subst e
  exact h hS hT
theorem s_gifts {g X o : List Int} {p v : Nat} (hm2 : m ≤ 4096) (hl : n.Arcs.length ≤ 16384) (he : Z5b m n.Arcs) (hi : IntoIs n m arcs) (hw : FwithinP n f) (ho : Topo n m f o) (hp : p < m) (hov : o.getD p 0 = (v : Int)) (hv : v < m) (hS : (v : Int) ≠ n.S) (hT : (v : Int) ≠ n.T) (hG : GB n m f g X) (hD : DoneP n m o X (p + 1)) :
    Ok (Z20 (fun s => Z4w n arcs v s.1 s.2.1 s.2.2) Z40 (g, X, 0)) (fun r => GB n m f r.1 r.2 ∧ DoneP n m o r.2 p) := by
  have hal := hi.len hv
  refine Z86 (fun s => ∃ q : Nat, s.2.2 = q ∧ q ≤ (arcs.getD v []).length ∧ GB n m f s.1 s.2.1 ∧ DoneP n m o s.2.1 (p + 1) ∧ (s.2.1.getD v 0 = 0 ∨ ∀ i, i < q → s.1.getD ((arcs.getD v []).getD i 0).toNat 0 = 0)) (fun s => ((arcs.getD v []).length - s.2.2).toNat) ⟨0, rfl, by omega, hG, hD, .inr fun i hi => by omega⟩ (by unfold Z40; simp only; omega) ?_
  rintro ⟨g, X, y⟩ ⟨q, h1, hq, hG, hD, hz⟩ P next exit
  simp only at h1 hG hD hz next ⊢
  subst h1
  unfold Z4w
  simp only [Int.toNat_natCast]
  refine Ok.ite.2 ⟨fun hy => ?_, fun hy => Ok.some.2 (exit _ ⟨hG, hD.skip hov fun _ _ => hG.done hv hS ?_⟩)⟩
  · obtain ⟨k, hk, hkl, hto⟩ := hi.at hv (q := q) (by omega)
    have e0 := he k hkl false
    simp only [vtx, Bool.false_eq_true, if_false] at e0
    obtain ⟨u, hfr⟩ : ∃ u : Nat, (n.Arcs.getD k default).fr = (u : Int) := ⟨(n.Arcs.getD k default).fr.toNat, by omega⟩
    have hu : u < m := by omega
    simp only [hk, hfr, Int.toNat_natCast]
    have hgk := hG.le k hkl
    have hXv := hG.nn v hv hS
    obtain ⟨d, hd⟩ : ∃ d, min (X.getD v 0) (g.getD k 0) = d := ⟨_, rfl⟩
    simp only [hd]
    have hG2 := hG.give hkl hv hu hto hfr hS hT (d := d) (by omega) (by omega) (by omega)
    obtain ⟨hD2, hne⟩ := hD.give ho hp hG hv hov hu hkl hto hfr (d := d) (by omega) (by omega)
    have hwG := hG.within hw
    have b1 := Zc6 hwG v
    rw [← hG.ex v hv] at b1
    have b2 := Zc6 (hG2.within hw) u
    have hlx := hG.lx
    have hlg := hG.len
    rw [← hG2.ex u hu, Z5s (by rw [List.length_set]; omega)] at b2
    have t1 := hwG.tot (k + 1) (by omega)
    have t0 := hwG.tot k (by omega)
    simp only [tot] at t1
    refine Ok.gd.2 ⟨(by constructor <;> omega), Ok.gd.2 ⟨(by constructor <;> omega), Ok.gd.2 ⟨(by constructor <;> omega), Ok.gd.2 ⟨(by constructor <;> omega), Ok.gd.2 ⟨(by constructor <;> omega), Ok.gd.2 ⟨(by constructor <;> omega), Ok.gd.2 ⟨(by constructor <;> omega), Ok.gd.2 ⟨(by constructor <;> omega), Ok.gd.2 ⟨(by constructor <;> omega), Ok.gd.2 ⟨(by constructor <;> omega), Ok.gd.2 ⟨(by simp only [List.length_set, List.length_replicate]; constructor <;> omega), Ok.gd.2 ⟨(by constructor <;> omega), Ok.gd.2 ⟨(by simp only [List.length_set, List.length_replicate]; constructor <;> omega), Ok.gd.2 ⟨(by constructor <;> omega), Ok.some.2 (next _ ⟨q + 1, by simp, by omega, hG2, hD2, ?_⟩ (by simp only; omega))⟩⟩⟩⟩⟩⟩⟩⟩⟩⟩⟩⟩⟩⟩
    simp only
    rw [Zch (by omega) (by omega), if_pos rfl]
    rcases hz with h0 | h0
    · left
      have hd0 : d = 0 := by omega
      subst hd0
      split <;> omega
    · by_cases hdx : d = X.getD v 0
      · left
        by_cases hd0 : 0 < d
        · rw [if_neg (hne hd0)]; omega
        · split <;> omega
      · right
        intro i hi2
        rw [Zab]
        by_cases e : k = ((arcs.getD v []).getD i 0).toNat
        · rw [if_pos ⟨e, by omega⟩]; omega
        · rw [if_neg (fun h => e h.1)]
          rcases Nat.lt_or_ge i q with h | h
          · exact h0 i h
          · rw [show i = q by omega, hk, Int.toNat_natCast] at e; exact absurd rfl e
  · rcases hz with h0 | h0
    · exact .inl h0
    · refine .inr fun k hk hto => ?_
      obtain ⟨q', hq', e⟩ := hi.in hv hk hto
      have := h0 q' (by omega)
      rw [e, Int.toNat_natCast] at this
      exact this
theorem s_each {X o : List Int} (hm2 : m ≤ 4096) (hl : n.Arcs.length ≤ 16384) (he : Z5b m n.Arcs) (hi : IntoIs n m arcs) (hw : FwithinP n f) (ho : Topo n m f o) (hG : GB n m f f X) :
    Ok (Z2f (fun s v => Z2w n arcs s.1 s.2 v.1 v.2) o (.inl (f, X))) (fun t => ∃ g X, t = .inl (g, X) ∧ GB n m f g X ∧ DoneP n m o X 0) := by
  have hol := ho.1
  unfold Z2f
  refine Ok.gd.2 ⟨by rw [hol]; constructor <;> omega, Ok.bind.2 (Z86 (fun s => ∃ (p : Nat) (g X : List Int), s = ((p : Int) - 1, Sum.inl (g, X)) ∧ p ≤ m ∧ GB n m f g X ∧ DoneP n m o X p) (fun s => (s.1 + 1).toNat) ⟨m, f, X, by rw [hol], Nat.le_refl _, hG, fun q h1 h2 => by omega⟩ (by unfold Z40; simp only; omega) ?_)⟩
  rintro s ⟨p, g, X, rfl, hp, hG, hD⟩ P next exit
  unfold Z23
  refine Ok.ite.2 ⟨fun hx => ?_, fun hx => Ok.some.2 (exit _ (Ok.some.2 ⟨g, X, rfl, hG, ?_⟩))⟩
  · obtain ⟨p, rfl⟩ : ∃ q, p = q + 1 := ⟨p - 1, by omega⟩
    have e1 : ((p + 1 : Nat) : Int) - 1 = p := by omega
    simp only [e1, Int.toNat_natCast]
    obtain ⟨v, hov, hv⟩ := ho.2.1.lt (o.getD p 0) (Z65 (by omega) 0)
    refine Ok.gd.2 ⟨(by constructor <;> omega), Ok.bind.2 ?_⟩
    show Ok (Z2w n arcs g X p (o.getD p 0)) _
    rw [hov]
    have key : Ok (Z2w n arcs g X p v) (fun t => ∃ g X, t = .inl (g, X) ∧ GB n m f g X ∧ DoneP n m o X p) := by
      unfold Z2w
      refine Ok.ite.2 ⟨fun h => Ok.some.2 ⟨g, X, rfl, hG, hD.skip hov fun h2 => absurd h h2⟩, fun hS => Ok.ite.2 ⟨fun h => Ok.some.2 ⟨g, X, rfl, hG, hD.skip hov fun _ h2 => absurd h h2⟩, fun hT => ?_⟩⟩
      have hil := hi.1
      refine Ok.gd.2 ⟨(by constructor <;> omega), Ok.bind.2 (Ok.mono (s_gifts hm2 hl he hi hw ho (by omega) hov hv hS hT hG hD) ?_)⟩
      rintro ⟨g', X'⟩ ⟨h1, h2⟩
      exact Ok.some.2 ⟨g', X', rfl, h1, h2⟩
    refine Ok.mono key ?_
    rintro _ ⟨g', X', rfl, hG', hD'⟩
    exact Ok.ite.2 ⟨fun h => by simp at h, fun _ => Ok.gd.2 ⟨(by constructor <;> omega), Ok.some.2 (next _ ⟨p, g', X', rfl, by omega, hG', hD'⟩ (by simp only; omega))⟩⟩
  · rw [show p = 0 by omega] at hD; exact hD
theorem Zj3 (hl : lenok n.Arcs.length) : Ok (Z59 n f) (fun r => (¬ Zkv n f (fun x => 0 ≤ x) [n.S] ∧ r = ([], 20)) ∨ (Zkv n f (fun x => 0 ≤ x) [n.S] ∧ r.2 = 0 ∧ BackP n f r.1)) := by
 unfold Z59
 refine Ok.bind.2 (Ok.mono (s_Pre hl) fun b hb => Ok.ite.2 ⟨fun h => Ok.some.2 (.inl ⟨fun h2 => (by rw [hb.2 h2] at h; cases h), rfl⟩), fun h => ?_⟩)
 have hP := hb.1 (Z91 h)
 obtain ⟨m, hm, -, hm2, hl2, he, hfl⟩ := hP.1.vert
 refine Ok.bind.2 (Ok.mono (s_Cancel hl) ?_)
 rintro ⟨f', t, e⟩ (⟨h, -⟩ | ⟨-, h0, hC, hA, -, -, -, hsame, -⟩)
 · exact absurd hP.1 h
 simp only at h0 hC hA hsame ⊢
 subst h0
 have hw' := hC.within hP.1
 refine Ok.ite.2 ⟨fun h => absurd rfl h, fun _ => Ok.bind.2 (Ok.mono (Zej hl) ?_)⟩
 rintro ⟨X, e⟩ (⟨-, h1, hxl, hx⟩ | ⟨h, -⟩)
 rotate_left
 · exact absurd hw' h
 simp only at h1 hxl hx ⊢
 subst h1
 rw [hm, Int.toNat_natCast] at hxl hx
 refine Ok.ite.2 ⟨fun h => absurd rfl h, fun _ => Ok.bind.2 (Ok.mono (s_Order hl) ?_)⟩
 rintro ⟨o, b2⟩ (⟨h, -⟩ | ⟨-, h2, h3, -⟩)
 · exact absurd hw' h
 simp only at h2 h3 ⊢
 rw [hm, Int.toNat_natCast] at h2
 have ho : Topo n m f' o := by
  cases b2
  · exact absurd hA (h3 rfl).2
  · exact h2 rfl
 have hz := Z2s hP.1.1
 simp only [Z39, decide_eq_true_eq] at hz
 have hst : GB n m f' f' X := GB.start hC.len (fun i hi => (hC.le i hi).1) hxl hx fun v hv hS => by
  rw [hC.ex]
  rcases hP.2 v (by omega) with h | h
  · exact h
  · rw [List.mem_singleton] at h; exact absurd h hS
 refine Ok.bind.2 (Ok.mono (s_into hm hm2 he hl2) fun arcs hi => ?_)
 unfold Z3t
 refine Ok.bind.2 (Ok.some.2 (Ok.bind.2 (Ok.mono (s_each hm2 hl2 he hi hw' ho hst) ?_)))
 rintro _ ⟨g, Y, rfl, hG, hD⟩
 obtain ⟨T, hT⟩ : ∃ T : Nat, n.T = T := ⟨n.T.toNat, by omega⟩
 have hTm : T < m := by omega
 have h5 := hG.atT T hTm hT.symm
 have h6 := hG.ex T hTm
 refine Ok.some.2 (.inr ⟨hP, rfl, hG.len, fun i hi => ?_, ⟨hG.within hw', fun v hv => ?_⟩, ?_, fun hz => ?_, hA.le fun i hi => (hG.le i hi).2, fun h1 h2 => ?_⟩)
 ·
  have := hG.le i hi
  have := hC.le i hi
  show 0 ≤ g.getD i 0 ∧ g.getD i 0 ≤ _
  omega
 ·
  rw [hm, Int.toNat_natCast] at hv
  by_cases c1 : (v : Int) = n.S
  · exact .inr (by rw [c1]; exact .head _)
  ·
   by_cases c2 : (v : Int) = n.T
   · exact .inr (by rw [c2]; exact .tail _ (.head _))
   ·
    left
    obtain ⟨q, hq, e⟩ := List.getElem_of_mem (ho.mem hv)
    have hol := ho.1
    rw [← hG.ex v hv]
    exact hD q (Nat.zero_le _) (by omega) v (by rw [List.getD_eq_getElem?_getD, List.getElem?_eq_getElem hq]; exact e) c1 c2
 · rw [hT, ← hC.ex]; show _ ≤ ex n.Arcs g _ _; omega
 ·
  rw [hT, ← hC.ex]
  show ex n.Arcs g _ _ = _
  rw [← h6]
  exact h5.2 fun i hi hfr => by
   have := hC.le i hi
   have := hz i hi hfr
   omega
 ·
  have e := (hsame h1).1
  show g = f
  rw [← e]
  refine hG.same fun v hv hS hT => ?_
  rw [e]
  rcases h2.2 v (by omega) with h | h
  · exact h
  ·
   simp only [List.mem_cons, List.not_mem_nil, or_false] at h
   rcases h with h | h
   · exact absurd h hS
   · exact absurd h hT
theorem s_Owed (hl : lenok n.Arcs.length) : Ok (Z6t n f) (fun r => (¬ Zkv n f (fun x => 0 ≤ x) [n.S] ∧ r = (0, 20)) ∨ (Zkv n f (fun x => 0 ≤ x) [n.S] ∧ r.2 = 0 ∧ 0 ≤ r.1 ∧ r.1 = - ex n.Arcs f n.S n.Arcs.length - ex n.Arcs f n.T n.Arcs.length)) := by
 unfold Z6t
 refine Ok.bind.2 (Ok.mono (s_Pre hl) fun b hb => Ok.ite.2 ⟨fun h => Ok.some.2 (.inl ⟨fun h2 => (by rw [hb.2 h2] at h; cases h), rfl⟩), fun h => ?_⟩)
 have hP := hb.1 (Z91 h)
 obtain ⟨m, hm, -, hm2, hl2, he, hfl⟩ := hP.1.vert
 refine Ok.bind.2 (Ok.mono (Zej hl) ?_)
 rintro ⟨X, e⟩ (⟨-, h1, hxl, hx⟩ | ⟨h, -⟩)
 rotate_left
 · exact absurd hP.1 h
 simp only at h1 hxl hx ⊢
 subst h1
 rw [hm, Int.toNat_natCast] at hxl hx
 have hz := Z2s hP.1.1
 simp only [Z39, decide_eq_true_eq] at hz
 have hnn : ∀ v : Nat, v < m → (v : Int) ≠ n.S → 0 ≤ ex n.Arcs f v n.Arcs.length := fun v hv hS => by
  rcases hP.2 v (by omega) with h | h
  · exact h
  · rw [List.mem_singleton] at h; exact absurd h hS
 have hmo := fun j k => Zgw (n := n) (f := f) hnn (j := j) k
 have hend := owK_eq (n := n) (f := f) he (by omega) (by omega) (by omega) m
 rw [Zgv he _ (Nat.le_refl _), if_pos (by omega), if_pos (by omega)] at hend
 have hbS := Zc6 hP.1 n.S
 obtain ⟨T, hT⟩ : ∃ T : Nat, n.T = T := ⟨n.T.toNat, by omega⟩
 have hTn := hnn T (by omega) (by omega)
 rw [← hT] at hTn
 refine Ok.bind.2 (Z86 (fun s => ∃ k : Nat, s.2 = k ∧ k ≤ m ∧ s.1 = owK n f k) (fun s => (m - s.2).toNat) ⟨0, rfl, by omega, rfl⟩ (by unfold Z40; simp only; omega) ?_)
 rintro ⟨sum, x⟩ ⟨k, h1, hk, h2⟩ P next exit
 simp only at h1 h2 next ⊢
 subst h1; subst h2
 unfold Z5w
 refine Ok.ite.2 ⟨fun hx2 => ?_, fun hx2 => Ok.some.2 (exit _ ?_)⟩
 ·
  have hkm : k < m := by omega
  have hxk := hx k hkm
  have a0 := hmo 0 k (by omega) (by omega)
  have a1 := hmo 0 (k + 1) (by omega) (by omega)
  have a2 := hmo (k + 1) m (by omega) (by omega)
  simp only [owK] at a0 a1 a2
  have no : ¬((k : Int) ≠ n.S ∧ (k : Int) ≠ n.T) → Ok (Z41 X (owK n f k) k false) P := fun hn => by
   unfold Z41
   refine Ok.ite.2 ⟨fun h => (by cases h), fun _ => Ok.gd.2 ⟨(by constructor <;> omega), Ok.some.2 (next _ ⟨k + 1, by simp, by omega, ?_⟩ (by simp only; omega))⟩⟩
   simp only [owK]
   rw [if_neg hn, Int.add_zero]
  refine Ok.gd.2 ⟨(by constructor <;> omega), Ok.ite.2 ⟨fun hS => ?_, fun hS => no fun h => hS h.1⟩⟩
  by_cases hT2 : (k : Int) = n.T
  · rw [decide_eq_false (fun h => h hT2)]; exact no fun h => h.2 hT2
  ·
   rw [decide_eq_true hT2]
   rw [if_pos ⟨hS, hT2⟩] at a1 a2
   unfold Z41
   simp only [Int.toNat_natCast, hxk]
   refine Ok.ite.2 ⟨fun _ => Ok.gd.2 ⟨(by constructor <;> omega), Ok.gd.2 ⟨(by constructor <;> omega), Ok.some.2 (next _ ⟨k + 1, by simp, by omega, ?_⟩ (by simp only; omega))⟩⟩, fun h => absurd trivial h⟩
   simp only [owK]
   rw [if_pos ⟨hS, hT2⟩]
 ·
  have e : k = m := by omega
  subst e
  have a0 := hmo 0 k (by omega) (by omega)
  simp only [owK] at a0
  unfold Z6y
  exact Ok.some.2 (.inr ⟨hP, rfl, a0, by show owK n f k = _; omega⟩)
end
end Go.Acq
namespace Go.Acq
open Go
abbrev u16ok (x : Int) : Prop := 0 ≤ x ∧ x ≤ 65535
theorem u16ok_wf {x : Int} (h : (Lit.int .u16 x).wf = true) : u16ok x := by simp [Lit.wf, IntKind.min, IntKind.max, IntKind.signed, IntKind.bits] at h; omega
end Go.Acq
namespace Go.Acq
open Go
set_option linter.unusedSimpArgs false
set_option linter.unusedVariables false
theorem sumL_B4 {ol : List Arc} {left : Int} (h : ∀ a, a ∈ ol → 0 ≤ a.cap ∧ a.cap ≤ 4503599627370496) (hl : (ol.length : Int) * 4503599627370496 ≤ left) : (Zca left ol).isSome = true := by
 induction ol generalizing left with
 | nil => simp [Zca]
 | cons a ol ih =>
  have ha := h a (.head _)
  simp only [List.length_cons] at hl
  simp only [Zca]
  rw [if_neg (by omega)]
  exact ih (fun b hb => h b (.tail _ hb)) (by omega)
theorem Zjh {m : Nat} {S T : Int} {ol : List Arc} (hm : 2 ≤ m) (hm2 : m ≤ 4096) (hS : 0 ≤ S ∧ S < m) (hT : 0 ≤ T ∧ T < m) (hST : S ≠ T) (h : ∀ a, a ∈ ol → Za9 m a = true ∧ 0 ≤ a.cap ∧ a.cap ≤ 4503599627370496) (hl : ol.length ≤ 1000) : Z74 m S T ol = 0 := by
 have h1 : ol.all (Za9 m) = true := List.all_eq_true.2 fun a ha => (h a ha).1
 have h2 : ol.all Zh4 = true := List.all_eq_true.2 fun a ha => by simp [Zh4, (h a ha).2.1]
 have h3 : (Zca 4611686018427387904 ol).isSome = true := sumL_B4 (fun a ha => (h a ha).2) (by omega)
 unfold Z74
 rw [if_neg (by omega), if_neg (by omega), if_neg (by simp [Z39, hS, hT, hST]), if_neg (by simp [h1]), if_neg (by simp [h2]), if_neg (by
  cases e : Zca 4611686018427387904 ol with
  | none => rw [e] at h3; cases h3
  | some x => simp)]
theorem Zjf {al : List Arc} {f : List Int} {v : Int} (h : ∀ i, f.getD i 0 = 0) : ∀ k, ex al f v k = 0
 | 0 => rfl
 | k + 1 => by rw [ex, Zjf h k, h k]; simp
theorem s_none {r : Net} {m u : Nat} {d : Int} (hm : r.N = m) (hso : SomeAt m r.Arcs) (hk : Z74 r.N r.S r.T r.Arcs = 0) (hlen : r.Arcs.length ≤ 30) (hm2 : m ≤ 12) (hum : u < m) (hu : (u : Int) ≠ r.S) (hd : u16ok d) : Ok (Z1j d r u) (fun b => b = true) := by
 have hd0 : 0 ≤ d ∧ d ≤ 65535 := hd
 have hcaps := Made.caps hso
 have hchk := Z2s hk
 have hends := hchk.2.2.1
 simp only [Z39, decide_eq_true_eq] at hends
 obtain ⟨L, hL⟩ : ∃ L, r.Arcs.length = L := ⟨_, rfl⟩
 have hAl : (r.Arcs ++ [Arc.mk (u : Int) r.S 65536]).length = L + 1 := by simp [hL]
 have hnet : Z74 r.N r.S r.T (r.Arcs ++ [Arc.mk (u : Int) r.S 65536]) = 0 := by
  rw [hm]
  refine Zjh (by omega) (by omega) (by omega) (by omega) hends.2.2 (fun b hb => ?_) (by omega)
  rcases List.mem_append.1 hb with h | h
  ·
   obtain ⟨i, hi, rfl⟩ := List.getElem_of_mem h
   have h1 := List.all_eq_true.1 hchk.2.2.2.1 _ h
   have h2 := hcaps i hi
   rw [List.getD_eq_getElem?_getD, List.getElem?_eq_getElem hi] at h2
   simp only [Option.getD_some] at h2
   rw [hm] at h1
   exact ⟨h1, h2.1, by omega⟩
  ·
   rw [List.mem_singleton] at h
   subst h
   refine ⟨by simp only [Za9, Z39, Bool.and_eq_true, decide_eq_true_eq]; omega, by show (0 : Int) ≤ 65536; omega, by show (65536 : Int) ≤ _; omega⟩
 obtain ⟨A, hA⟩ : ∃ A, A = r.Arcs ++ [Arc.mk (u : Int) r.S 65536] := ⟨_, rfl⟩
 have hlast : A.getD L default = Arc.mk (u : Int) r.S 65536 := by
  rw [hA, List.getD_eq_getElem?_getD, List.getElem?_append_right (by omega), hL, Nat.sub_self]; rfl
 rw [← hA] at hAl hnet
 obtain ⟨N, hN⟩ : ∃ N : Net, N = Net.mk r.N r.S r.T A := ⟨_, rfl⟩
 have hNA : N.Arcs = A := by rw [hN]
 have hNN : N.N = m := by rw [hN]; exact hm
 have hNS : N.S = r.S := by rw [hN]
 have hNl : N.Arcs.length = L + 1 := by rw [hNA]; exact hAl
 have hNc : Z74 N.N N.S N.T N.Arcs = 0 := by rw [hN]; exact hnet
 have hll : lenok N.Arcs.length := by omega
 have hcap0 : ∀ i, i < N.Arcs.length → 0 ≤ (N.Arcs.getD i default).cap := fun i hi => by
  have := List.all_eq_true.1 (Z2s hNc).2.2.2.2.1 _ (Z65 hi default)
  simpa [Zh4] using this
 obtain ⟨Z, hZ⟩ : ∃ Z, Z = List.replicate (L + 1) (0 : Int) := ⟨_, rfl⟩
 have hZl : Z.length = L + 1 := by rw [hZ]; exact List.length_replicate
 have hZg : ∀ i, Z.getD i 0 = 0 := fun i => by rw [hZ]; exact Z1x ..
 have hZw : FwithinP N Z := ⟨hNc, by rw [hZl, hNl], fun i hi => by rw [hZg]; exact ⟨Int.le_refl _, hcap0 i hi⟩⟩
 have hZp : Zkv N Z (fun x => 0 ≤ x) [N.S] := ⟨hZw, fun v _ => .inl (by rw [Zjf hZg]; exact Int.le_refl _)⟩
 obtain ⟨F, hF⟩ : ∃ F, F = Z.set L (d + 1) := ⟨_, rfl⟩
 have hFl : F.length = L + 1 := by rw [hF, List.length_set]; exact hZl
 have hFn : ¬ Zkv N F (fun x => 0 ≤ x) [N.S] := fun h => by
  rcases h.2 u (by omega) with h | h
  ·
   rw [hF, Zes (by omega), Zjf hZg, if_pos (by omega), hNA, hlast, hZg] at h
   simp only [if_true] at h
   rw [if_neg (fun e => hu e.symm)] at h
   omega
  · rw [List.mem_singleton, hNS] at h; exact hu h
 have hGn : ¬ Zkv N (F.take L) (fun x => 0 ≤ x) [N.S] := fun h => by
  have := h.1.2.1
  rw [List.length_take, hFl, hNl] at this
  omega
 have e1 : (((A.length : Int)).toNat) = L + 1 := by omega
 have e2 : (((L + 1 : Nat) : Int) - 1).toNat = L := by omega
 unfold Z1j
 rw [← hA, ← hN]
 simp only [e1, ← hZ, hZl, e2, ← hF, hFl]
 refine Ok.gd.2 ⟨by rw [hAl]; constructor <;> omega, Ok.gd.2 ⟨by rw [hAl]; constructor <;> omega, Ok.bind.2 (Ok.mono (Zj3 hll) ?_)⟩⟩
 rintro ⟨g, e3⟩ (⟨h, -⟩ | ⟨-, h1, hB⟩)
 · exact absurd hZp h
 simp only at h1 hB ⊢
 subst h1
 have hgl := hB.len
 refine Ok.gd.2 ⟨(by constructor <;> omega), Ok.gd.2 ⟨(by constructor <;> omega), Ok.gd.2 ⟨(by constructor <;> omega), Ok.gd.2 ⟨(by constructor <;> omega), Ok.bind.2 (Ok.mono (Zj3 hll) ?_)⟩⟩⟩⟩
 rintro _ (⟨-, rfl⟩ | ⟨h, -⟩)
 rotate_left
 · exact absurd h hFn
 refine Ok.bind.2 (Ok.mono (s_Owed hll) ?_)
 rintro _ (⟨-, rfl⟩ | ⟨h, -⟩)
 rotate_left
 · exact absurd h hFn
 refine Ok.gd.2 ⟨(by constructor <;> omega), Ok.gd.2 ⟨(by constructor <;> omega), Ok.bind.2 (Ok.mono (Zj3 hll) ?_)⟩⟩
 rintro _ (⟨-, rfl⟩ | ⟨h, -⟩)
 rotate_left
 · exact absurd h hGn
 simp only
 unfold Z28 Z27 Z26 Z25 Z24
 rw [if_pos trivial, if_pos (decide_eq_true (by omega)), if_pos (by simp), if_pos (by simp), if_pos (by simp)]
 exact Ok.bind.2 (Zbf aw23 (Ok.some.2 rfl))
theorem p_BackNone {n : Net} {v d : Int} (hn : NetIn n) (hv : u8ok v) (hd : u16ok d) : Z3c n v d = some true := by
 refine Zge ?_
 unfold Z3c
 refine Ok.bind.2 (Ok.mono (s_Some hn (by omega) (by omega) (by omega) (by omega)) fun r hr => ?_)
 obtain ⟨m, hm, hso⟩ := hr.nat
 have hlen := hr.arcs
 have hvv := hr.verts
 have hends := hr.ends
 have hk := hr.check
 have hv0 : 0 ≤ v ∧ v ≤ 255 := hv
 have h1 := Int.tmod_lt_of_pos v (show 0 < r.N by omega)
 have h2 := Int.tmod_nonneg r.N hv0.1
 refine Ok.gd.2 ⟨(by constructor <;> omega), Ok.gd.2 ⟨(by omega), Ok.ite.2 ⟨fun h => ?_, fun h => ?_⟩⟩⟩
 ·
  obtain ⟨u, hu⟩ : ∃ u : Nat, r.T = u := ⟨r.T.toNat, by omega⟩
  rw [hu]
  exact s_none hm hso hk (by omega) (by omega) (by omega) (by omega) hd
 ·
  obtain ⟨u, hu⟩ : ∃ u : Nat, v.tmod r.N = u := ⟨(v.tmod r.N).toNat, by omega⟩
  rw [hu] at h h1 ⊢
  exact s_none hm hso hk (by omega) (by omega) (by omega) h hd
end Go.Acq
