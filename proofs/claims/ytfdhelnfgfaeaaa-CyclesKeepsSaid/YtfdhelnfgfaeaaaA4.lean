/- Texts of this claim, one behind the other. -/
import Derived.Test.YtfdhelnfgfaeaaaA1
import Derived.Test.YtfdhelnfgfaeaaaA2
import Derived.Test.YtfdhelnfgfaeaaaA3
set_option linter.unusedVariables false
set_option linter.unusedSimpArgs false
namespace Go.Proofs.Ytfdhelnfgfaeaaa.Ax
open Go Go.Acq Go.RowKit Go.Proofs
set_option linter.unusedVariables false
set_option linter.unusedSimpArgs false
set_option maxHeartbeats 8000000
set_option maxRecDepth 20000
theorem Z2c : Zbg Try.prog 24 4 = true := by kernel_rfl
theorem Z9w : Z0r Try.prog 15 = true := by kernel_rfl
theorem Z9v : Z0r Try.prog 21 = true := by kernel_rfl
theorem Z9u : Z0r Try.prog 22 = true := by kernel_rfl
theorem Z9t : Z0r Try.prog 24 = true := by kernel_rfl
theorem Z7g : Z0r Try.prog 25 = true := by kernel_rfl
theorem Z7f : Z0r Try.prog 27 = true := by kernel_rfl
theorem Z7e : Z0r Try.prog 28 = true := by kernel_rfl
theorem Z2b : Z1f Try.prog 26 = some 2 := by kernel_rfl
theorem Z9s : Z1f Try.prog 40 = some 3 := by kernel_rfl
theorem Z36 : Z24 Try.prog 2 = some 1 := by kernel_rfl
theorem Z9r : Z24 Try.prog 24 = some 4 := by kernel_rfl
theorem Z35 : Z3r Try.prog 2 = true := by kernel_rfl
theorem w_acequialaw22_CyclesKeeps {n0 : Net} {l1 : List Int} {n0f3_b : Option Addr} {n0f3_n : Nat} {n0f3_c : Nat} {l1_b : Option Addr} {l1_n : Nat} {l1_c : Nat} (w : World) (h_n0f3 : RS w [] Z66 3 n0f3_b n0f3_n n0f3_c n0.Arcs) (g1 : RS w [] (intC .i64) 1 l1_b l1_n l1_c l1) {r0 : Bool} (H : Z2o n0 l1 = some r0) : Fnc Try.prog 6 #[.agg #[.int .i64 n0.N, .int .i64 n0.S, .int .i64 n0.T, .slice n0f3_b n0f3_n n0f3_c], .slice l1_b l1_n l1_c] w [] (fun v N => v = .bool r0 ∧ N = []) := by
 unfold Z2o at H; refine Fnc.enter (vs := [.agg #[.int .i64 n0.N, .int .i64 n0.S, .int .i64 n0.T, .slice n0f3_b n0f3_n n0f3_c], .slice l1_b l1_n l1_c]) Try.func6 rfl rfl (Inv.refl w) ?_; refine Z0b ?_; refine Z04 (ll := [0, 1]) rfl ?_; refine Z2z rfl rfl rfl rfl ?_; intro b1; refine Z06 rfl rfl rfl rfl ?_; refine Z03 ?_; refine Z01 ?_; refine Z0b ?_; obtain ⟨r3, e4, H⟩ := Z0k H; refine Z04 (ll := [0, 1, 2]) rfl ?_; refine Z14 rfl rfl rfl rfl Z2c mm0 rfl ?_; refine Z0n Z9w rfl rfl rfl rfl (fun wc hwc => Zaf (n0 := n0) (verts1 := 30) (arcs2 := 60) wc (h_n0f3.mono hwc) e4) ?_; rintro _ _ ⟨f7, n6, c7, j8, rfl, rfl, d7, b6, j6, b7⟩; refine Z2x rfl rfl rfl rfl tk1 Z9r rfl rfl rfl ?_; refine Z03 ?_; refine Z01 ?_; refine Z0b ?_; obtain ⟨c8, j7, H⟩ := Z0k H; refine Z04 (ll := [0, 1, 2, 3]) rfl ?_; refine Z14 rfl rfl rfl rfl Z2c mm0 rfl ?_; refine Z05 rfl rfl rfl rfl ?_; refine Z0n Z9v rfl rfl rfl rfl (fun wc hwc => Z9j (n0 := r3) (l1 := l1) wc (hwc.rs (f := Z66) (s := 3) (xs := r3.Arcs) (j := j8) (fun _ => rfl) mm1 d7 b6 b7) (g1.mono hwc) j7) ?_; rintro _ _ ⟨e0, j9, k1, g2, rfl, rfl, a8, a9, k2, b0⟩; refine Z06 rfl rfl rfl rfl ?_; refine Z03 ?_; refine Z01 ?_; refine Z0l (Z00 (t := 2) rfl (Z00 (t := 5) rfl Z07)) ?_; refine Z0b ?_; obtain ⟨⟨a7, b8, n5⟩, k3, H⟩ := Z0k H; refine Z04 (ll := [0, 1, 2, 3, 4, 5, 6, 7, 8, 9]) rfl ?_; refine Z14 rfl rfl rfl rfl Z2c mm1 rfl ?_; refine Z05 rfl rfl rfl rfl ?_; refine Z0n Z7g rfl rfl rfl rfl (fun wc hwc => Z78 (n0 := r3) (f1 := c8) wc (hwc.rs (f := Z66) (s := 3) (xs := r3.Arcs) (j := j8) (fun _ => rfl) mm2 d7 b6 b7) (hwc.rs (f := (intC .i64)) (s := 1) (xs := c8) (j := g2) (fun _ => rfl) mm0 a8 a9 b0) k3) ?_; rintro _ _ ⟨b5, e1, e2, d8, rfl, rfl, a4, a5, k4, a6⟩; refine Z05 rfl rfl rfl rfl ?_; refine TO.extract rfl rfl rfl rfl rfl ?_; refine TO.extract rfl rfl rfl rfl rfl ?_; refine TO.extract rfl rfl rfl rfl rfl ?_; refine Z06 rfl rfl rfl rfl ?_; refine Z06 rfl rfl rfl rfl ?_; refine Z06 rfl rfl rfl rfl ?_; refine Z03 ?_; refine Z01 ?_; refine Z0b ?_; obtain ⟨⟨j0, n7⟩, k5, H⟩ := Z0k H; refine Z04 (ll := [0, 1, 2, 3, 4, 5, 6, 7]) rfl ?_; refine Z14 rfl rfl rfl rfl Z2c mm2 rfl ?_; refine Z05 rfl rfl rfl rfl ?_; refine Z0n Z7f rfl rfl rfl rfl (fun wc hwc => Za6 (n0 := r3) (f1 := c8) wc (hwc.rs (f := Z66) (s := 3) (xs := r3.Arcs) (j := j8) (fun _ => rfl) mm3 d7 b6 b7) (hwc.rs (f := (intC .i64)) (s := 1) (xs := c8) (j := g2) (fun _ => rfl) mm1 a8 a9 b0) k5) ?_; rintro _ _ ⟨k6, n8, n9, k7, rfl, rfl, g3, g4, k8, g5⟩; refine Z05 rfl rfl rfl rfl ?_; refine TO.extract rfl rfl rfl rfl rfl ?_; refine TO.extract rfl rfl rfl rfl rfl ?_; refine Z06 rfl rfl rfl rfl ?_; refine Z06 rfl rfl rfl rfl ?_; refine Z03 ?_; refine Z01 ?_; refine Z0l (Z00 (t := 2) rfl (Z00 (t := 5) rfl (Z00 (t := 6) rfl (Z00 (t := 7) rfl (Z00 (t := 8) rfl (Z00 (t := 9) rfl (Z00 (t := 10) rfl Z07))))))) ?_; refine Z0b ?_; obtain ⟨⟨j1, o0⟩, k9, H⟩ := Z0k H; refine Z04 (ll := [0, 1, 2, 3, 4, 5, 6, 7]) rfl ?_; refine Z14 rfl rfl rfl rfl Z2c mm3 rfl ?_; refine Z05 rfl rfl rfl rfl ?_; refine Z0n Z7f rfl rfl rfl rfl (fun wc hwc => Za6 (n0 := r3) (f1 := a7) wc (hwc.rs (f := Z66) (s := 3) (xs := r3.Arcs) (j := j8) (fun _ => rfl) mm4 d7 b6 b7) (hwc.rs (f := (intC .i64)) (s := 1) (xs := a7) (j := d8) (fun _ => rfl) mm1 a4 a5 a6) k9) ?_; rintro _ _ ⟨l0, o1, c55, l3, rfl, rfl, g6, g7, l4, g8⟩; refine Z05 rfl rfl rfl rfl ?_; refine TO.extract rfl rfl rfl rfl rfl ?_; refine TO.extract rfl rfl rfl rfl rfl ?_; refine Z06 rfl rfl rfl rfl ?_; refine Z06 rfl rfl rfl rfl ?_; refine Z03 ?_; refine Z01 ?_; refine Z0b ?_; refine Z0b ?_; rcases Z0g H with ⟨e3, H⟩ | ⟨e3, H⟩
 · refine Z04 (ll := [0, 1, 2, 3, 4, 5, 6, 7, 8, 9, 10, 11, 12, 13, 14, 15]) rfl ?_; refine Z05 rfl rfl rfl rfl ?_; refine Z0p rfl rfl rfl rfl rfl rfl ?_; refine Z05 rfl rfl rfl rfl ?_; refine Z0o (t := 46) (b' := true) rfl (decide_eq_true e3) ?_; refine Z0f rfl rfl rfl rfl ?_; refine Z0f rfl rfl rfl rfl ?_; refine Z11 rfl rfl rfl rfl rfl ?_; refine Z05 rfl rfl rfl rfl ?_; refine Z0f rfl rfl rfl rfl ?_; refine Z0f rfl rfl rfl rfl ?_; refine Z11 rfl rfl rfl rfl rfl ?_; refine Z05 rfl rfl rfl rfl ?_; refine Z0f rfl rfl rfl rfl ?_; refine Z0f rfl rfl rfl rfl ?_; refine Z0f rfl rfl rfl rfl ?_; refine Z0f rfl rfl rfl rfl ?_; refine Z11 rfl rfl rfl rfl rfl ?_; refine Z03 ?_; refine Z01 ?_; refine Z0l (Z00 (t := 2) rfl (Z00 (t := 5) rfl (Z00 (t := 6) rfl (Z00 (t := 7) rfl (Z00 (t := 59) rfl Z07))))) ?_; refine Z22 rfl rfl ?_; refine Z0b ?_; refine Z04 (ll := [0]) rfl ?_; refine Z06 rfl rfl rfl rfl ?_; refine Z03 ?_; refine Z01 ?_; refine T.ret ?_; refine Z0e ?_; obtain rfl := ret1 H; exact Z0u rfl rfl rfl rfl (Res.tmp rfl) Z08 ⟨rfl, rfl⟩
 ·
  rcases Z0g H with ⟨f8, H⟩ | ⟨f8, H⟩
  · refine Z04 (ll := [0, 1, 2, 3, 4, 5, 6, 7, 8, 9, 10, 11, 12, 13, 14, 15]) rfl ?_; refine Z05 rfl rfl rfl rfl ?_; refine Z0p rfl rfl rfl rfl rfl rfl ?_; refine Z05 rfl rfl rfl rfl ?_; refine Z0o (t := 46) (b' := false) rfl (decide_eq_false e3) ?_; refine Z05 rfl rfl rfl rfl ?_; refine Z0p rfl rfl rfl rfl rfl rfl ?_; refine Z13 rfl rfl rfl rfl rfl ?_; refine Z05 rfl rfl rfl rfl ?_; refine Z0o (t := 50) (b' := true) rfl (decide_eq_true f8) ?_; refine Z0f rfl rfl rfl rfl ?_; refine Z0f rfl rfl rfl rfl ?_; refine Z11 rfl rfl rfl rfl rfl ?_; refine Z05 rfl rfl rfl rfl ?_; refine Z0f rfl rfl rfl rfl ?_; refine Z0f rfl rfl rfl rfl ?_; refine Z0f rfl rfl rfl rfl ?_; refine Z0f rfl rfl rfl rfl ?_; refine Z11 rfl rfl rfl rfl rfl ?_; refine Z03 ?_; refine Z01 ?_; refine Z0l (Z00 (t := 2) rfl (Z00 (t := 5) rfl (Z00 (t := 6) rfl (Z00 (t := 7) rfl (Z00 (t := 59) rfl Z07))))) ?_; refine Z22 rfl rfl ?_; refine Z0b ?_; refine Z04 (ll := [0]) rfl ?_; refine Z06 rfl rfl rfl rfl ?_; refine Z03 ?_; refine Z01 ?_; refine T.ret ?_; refine Z0e ?_; obtain rfl := ret1 H; exact Z0u rfl rfl rfl rfl (Res.tmp rfl) Z08 ⟨rfl, rfl⟩
  ·
   rcases Z0g H with ⟨g9, H⟩ | ⟨g9, H⟩
   · refine Z04 (ll := [0, 1, 2, 3, 4, 5, 6, 7, 8, 9, 10, 11, 12, 13, 14, 15]) rfl ?_; refine Z05 rfl rfl rfl rfl ?_; refine Z0p rfl rfl rfl rfl rfl rfl ?_; refine Z05 rfl rfl rfl rfl ?_; refine Z0o (t := 46) (b' := false) rfl (decide_eq_false e3) ?_; refine Z05 rfl rfl rfl rfl ?_; refine Z0p rfl rfl rfl rfl rfl rfl ?_; refine Z13 rfl rfl rfl rfl rfl ?_; refine Z05 rfl rfl rfl rfl ?_; refine Z0o (t := 50) (b' := false) rfl (decide_eq_false f8) ?_; refine Z05 rfl rfl rfl rfl ?_; refine Z0p rfl rfl rfl rfl rfl rfl ?_; refine Z13 rfl rfl rfl rfl rfl ?_; refine Z05 rfl rfl rfl rfl ?_; refine Z0o (t := 54) (b' := true) rfl (decide_eq_true g9) ?_; refine Z0f rfl rfl rfl rfl ?_; refine Z0f rfl rfl rfl rfl ?_; refine Z0f rfl rfl rfl rfl ?_; refine Z0f rfl rfl rfl rfl ?_; refine Z11 rfl rfl rfl rfl rfl ?_; refine Z03 ?_; refine Z01 ?_; refine Z0l (Z00 (t := 2) rfl (Z00 (t := 5) rfl (Z00 (t := 6) rfl (Z00 (t := 7) rfl (Z00 (t := 59) rfl Z07))))) ?_; refine Z22 rfl rfl ?_; refine Z0b ?_; refine Z04 (ll := [0]) rfl ?_; refine Z06 rfl rfl rfl rfl ?_; refine Z03 ?_; refine Z01 ?_; refine T.ret ?_; refine Z0e ?_; obtain rfl := ret1 H; exact Z0u rfl rfl rfl rfl (Res.tmp rfl) Z08 ⟨rfl, rfl⟩
   ·
    obtain ⟨o2, l5, H⟩ := Z0k H; refine Z04 (ll := [0, 1, 2, 3, 4, 5, 6, 7, 8, 9, 10, 11, 12, 13, 14, 15]) rfl ?_; refine Z05 rfl rfl rfl rfl ?_; refine Z0p rfl rfl rfl rfl rfl rfl ?_; refine Z05 rfl rfl rfl rfl ?_; refine Z0o (t := 46) (b' := false) rfl (decide_eq_false e3) ?_; refine Z05 rfl rfl rfl rfl ?_; refine Z0p rfl rfl rfl rfl rfl rfl ?_; refine Z13 rfl rfl rfl rfl rfl ?_; refine Z05 rfl rfl rfl rfl ?_; refine Z0o (t := 50) (b' := false) rfl (decide_eq_false f8) ?_; refine Z05 rfl rfl rfl rfl ?_; refine Z0p rfl rfl rfl rfl rfl rfl ?_; refine Z13 rfl rfl rfl rfl rfl ?_; refine Z05 rfl rfl rfl rfl ?_; refine Z0o (t := 54) (b' := false) rfl (decide_eq_false g9) ?_; refine Z05 rfl rfl rfl rfl ?_; refine Z05 rfl rfl rfl rfl ?_; refine Z0n Z7e rfl rfl rfl rfl (fun wc hwc => Z4o (a0 := j0) (b1 := j1) wc (hwc.rs (f := (intC .i64)) (s := 1) (xs := j0) (j := k7) (fun _ => rfl) mm1 g3 g4 g5) (hwc.rs (f := (intC .i64)) (s := 1) (xs := j1) (j := l3) (fun _ => rfl) mm0 g6 g7 g8) l5) ?_; rintro _ _ ⟨rfl, rfl⟩; refine TO.not rfl rfl rfl rfl ?_; refine Z13 rfl rfl rfl rfl rfl ?_; refine Z03 ?_; refine Z01 ?_; refine Z0l (Z00 (t := 2) rfl (Z00 (t := 5) rfl (Z00 (t := 6) rfl (Z00 (t := 7) rfl (Z00 (t := 59) rfl Z07))))) ?_; rcases Z0g H with ⟨h0, H⟩ | ⟨h0, H⟩
    · refine Z22 rfl h0 ?_; refine Z0b ?_; refine Z04 (ll := [0]) rfl ?_; refine Z06 rfl rfl rfl rfl ?_; refine Z03 ?_; refine Z01 ?_; refine T.ret ?_; refine Z0e ?_; obtain rfl := ret1 H; exact Z0u rfl rfl rfl rfl (Res.tmp rfl) Z08 ⟨rfl, rfl⟩
    ·
     refine Z3n rfl (Bool.eq_false_iff.2 h0) ?_; refine T.skip ?_; refine Z01 ?_; refine Z0b ?_; refine Z04 (ll := [0]) rfl ?_; refine Z06 rfl rfl rfl rfl ?_; refine Z03 ?_; refine Z01 ?_; refine Z0b ?_; refine Z0b ?_; refine Z04 (ll := [0, 1, 2]) rfl ?_; refine Z05 rfl rfl rfl rfl ?_; refine Z20 (xs := a7) a4 rfl rfl rfl rfl rfl Z2b ?_; refine Z05 rfl rfl rfl rfl ?_; refine Z03 ?_; refine Z01 ?_; refine Z21 (fun (a2 : Int) => Z29 r3 a7 b8 a2 = some r0) (fun (a2 : Int) => [(2, .pointer (some ⟨b1, 0, none⟩)), (6, .slice (sb b5) e1 e2), (7, .int .i64 b8), (13, .int .i64 a2)]) (fun (a2 : Int) => [(some b1, .cells #[.int .i64 r3.N, .int .i64 r3.S, .int .i64 r3.T, .slice (sb f7) n6 c7] 24 (0, 0)), (f7, .cells (arr Z66 r3.Arcs j8).toArray 35 (0, 0)), (b5, .cells (arr (intC .i64) a7 d8).toArray 2 (0, 0))]) ?_ ?_
     ·
      refine T.block ?_; obtain ⟨l6, l7, h1⟩ := Z0k H; refine Z6i (fun (d9 : Nat) (a3 : Int) (c4 : Int) => Z2h (fun s => Z1j c8 a7 s.1 s.2) d9 (a3, c4) = some l6) (fun (d9 : Nat) (a3 : Int) (c4 : Int) => [(2, .pointer (some ⟨b1, 0, none⟩)), (5, .slice (sb e0) j9 k1), (6, .slice (sb b5) e1 e2), (7, .int .i64 b8), (13, .int .i64 a3), (61, .int .i64 (a7.length : Int)), (62, .int .i64 c4)]) (fun (d9 : Nat) (a3 : Int) (c4 : Int) => [(some b1, .cells #[.int .i64 r3.N, .int .i64 r3.S, .int .i64 r3.T, .slice (sb f7) n6 c7] 24 (0, 0)), (f7, .cells (arr Z66 r3.Arcs j8).toArray 35 (0, 0)), (e0, .cells (arr (intC .i64) c8 g2).toArray 2 (0, 0)), (b5, .cells (arr (intC .i64) a7 d8).toArray 2 (0, 0))]) (fun (d9 : Nat) (a3 : Int) (c4 : Int) => d9) Z5f 0 0 l7 (Z00 rfl (Z00 rfl (Z00 rfl (Z00 rfl (Z00 rfl (Z00 rfl (Z00 rfl Z07))))))) (Z02 tk4 (Z02 tk4 (Z02 tk3 (Z02 tk2 Z08)))) ?_; rintro d9 a3 c4 H; obtain ⟨j2, l8, rfl, H, e5⟩ := Z1b H; have H : Z1j c8 a7 a3 c4 = some l8 := H; unfold Z1j at H; refine Z0b ?_; refine Z04 (ll := [0]) rfl ?_; refine Z0p rfl rfl rfl rfl rfl rfl ?_; refine Z03 ?_; refine Z01 ?_; refine Z0b ?_; rcases Z0g H with ⟨h2, H⟩ | ⟨h2, H⟩
      ·
       refine Z0x rfl h2 ?_; refine T.skip ?_; refine Z01 ?_; refine Z0b ?_; refine T.block ?_; refine Z0b ?_; refine Z04 (ll := [0, 1]) rfl ?_; refine Z05 rfl rfl rfl rfl ?_; refine Z06 rfl rfl rfl rfl ?_; refine Z03 ?_; refine Z01 ?_; refine Z0b ?_; refine Z0b ?_; obtain ⟨f9, H⟩ := Z0c H; obtain ⟨g0, H⟩ := Z0c H; rcases Z0g H with ⟨h3, H⟩ | ⟨h3, H⟩
       · refine Za2 12 [0, 1, 2, 3, 4, 5, 6, 7, 8, 9, 10, 11] rfl Z7x (by kernel_rfl) (by kernel_rfl) rfl (by kernel_rfl) ?_; refine TQ.move rfl rfl rfl rfl ?_; refine TQ.move rfl rfl rfl rfl ?_; refine Zcm a6 a5 a4 f9 rfl rfl rfl rfl rfl Z2b Z36 ?_; refine Zal a6 a5 a4 f9 rfl rfl rfl rfl Z35 mm3 ?_; refine TQ.move rfl rfl rfl rfl ?_; refine TQ.move rfl rfl rfl rfl ?_; refine Zcm b0 a9 a8 g0 rfl rfl rfl rfl rfl Z2b Z36 ?_; refine Zal b0 a9 a8 g0 rfl rfl rfl rfl Z35 mm2 ?_; refine Zhp rfl rfl rfl rfl rfl rfl ?_; refine TQ.move rfl rfl rfl rfl ?_; refine Zho (t := 74) (b' := true) rfl (decide_eq_true h3) ?_; refine Zhk rfl rfl rfl rfl ?_; refine Zhk rfl rfl rfl rfl ?_; refine TQ.tail [12, 13, 14, 15] rfl rfl ?_; refine Z0f rfl rfl rfl rfl ?_; refine Z0f rfl rfl rfl rfl ?_; refine Z0f rfl rfl rfl rfl ?_; refine Z11 rfl rfl rfl rfl rfl ?_; refine Z03 ?_; refine Z01 ?_; refine Z0l (Z00 (t := 2) rfl (Z00 (t := 5) rfl (Z00 (t := 6) rfl (Z00 (t := 7) rfl (Z00 (t := 13) rfl (Z00 (t := 61) rfl (Z00 (t := 62) rfl (Z00 (t := 14) rfl (Z00 (t := 75) rfl (Z00 (t := 76) rfl (Z00 (t := 77) rfl (Z00 (t := 78) rfl (Z00 (t := 79) rfl (Z00 (t := 80) rfl Z07)))))))))))))) ?_; refine Z22 rfl rfl ?_; refine Z0b ?_; refine Z04 (ll := [0]) rfl ?_; refine Z06 rfl rfl rfl rfl ?_; refine Z03 ?_; refine Z01 ?_; refine Z0l (Z00 (t := 4) rfl Z07) ?_; refine T.ret ?_; refine Z0e ?_; refine Z0m ?_; refine Z0e ?_; have H := Z0s H e5 ▸ h1; refine Z0e ?_; refine Z0m ?_; refine Z0e ?_; obtain rfl := ret1 H; exact Z0u rfl rfl rfl rfl (Res.tmp rfl) Z08 ⟨rfl, rfl⟩
       ·
        obtain ⟨j3, H⟩ := Z0c H; refine Za2 12 [0, 1, 2, 3, 4, 5, 6, 7, 8, 9, 10, 11] rfl Z7x (by kernel_rfl) (by kernel_rfl) rfl (by kernel_rfl) ?_; refine TQ.move rfl rfl rfl rfl ?_; refine TQ.move rfl rfl rfl rfl ?_; refine Zcm a6 a5 a4 f9 rfl rfl rfl rfl rfl Z2b Z36 ?_; refine Zal a6 a5 a4 f9 rfl rfl rfl rfl Z35 mm3 ?_; refine TQ.move rfl rfl rfl rfl ?_; refine TQ.move rfl rfl rfl rfl ?_; refine Zcm b0 a9 a8 g0 rfl rfl rfl rfl rfl Z2b Z36 ?_; refine Zal b0 a9 a8 g0 rfl rfl rfl rfl Z35 mm2 ?_; refine Zhp rfl rfl rfl rfl rfl rfl ?_; refine TQ.move rfl rfl rfl rfl ?_; refine Zho (t := 74) (b' := false) rfl (decide_eq_false h3) ?_; refine TQ.move rfl rfl rfl rfl ?_; refine TQ.move rfl rfl rfl rfl ?_; refine TQ.tail [12, 13, 14, 15] rfl rfl ?_; refine Z6p a6 a5 a4 j3 rfl rfl rfl rfl rfl Z2b Z36 ?_; refine Z9y a6 a5 a4 j3 rfl rfl rfl rfl Z35 mm3 ?_; refine Z0p rfl rfl rfl rfl rfl rfl ?_; refine Z13 rfl rfl rfl rfl rfl ?_; refine Z03 ?_; refine Z01 ?_; refine Z0l (Z00 (t := 2) rfl (Z00 (t := 5) rfl (Z00 (t := 6) rfl (Z00 (t := 7) rfl (Z00 (t := 13) rfl (Z00 (t := 61) rfl (Z00 (t := 62) rfl (Z00 (t := 14) rfl (Z00 (t := 75) rfl (Z00 (t := 76) rfl (Z00 (t := 77) rfl (Z00 (t := 78) rfl (Z00 (t := 79) rfl (Z00 (t := 80) rfl Z07)))))))))))))) ?_; rcases Z0g H with ⟨h4, H⟩ | ⟨h4, H⟩
        · refine Z0x rfl h4 ?_; refine Z0b ?_; refine Z04 (ll := [0]) rfl ?_; refine Z06 rfl rfl rfl rfl ?_; refine Z03 ?_; refine Z01 ?_; refine Z0l (Z00 (t := 4) rfl Z07) ?_; refine T.ret ?_; refine Z0e ?_; refine Z0m ?_; refine Z0e ?_; have H := Z0s H e5 ▸ h1; refine Z0e ?_; refine Z0m ?_; refine Z0e ?_; obtain rfl := ret1 H; exact Z0u rfl rfl rfl rfl (Res.tmp rfl) Z08 ⟨rfl, rfl⟩
        ·
         refine Z0y rfl h4 ?_; refine T.skip ?_; refine Z01 ?_; refine Z0b ?_; obtain ⟨j4, H⟩ := Z0c H; refine Z04 (ll := [0, 1, 2, 3, 4]) rfl ?_; refine Z05 rfl rfl rfl rfl ?_; refine Z05 rfl rfl rfl rfl ?_; refine Z6p b0 a9 a8 j4 rfl rfl rfl rfl rfl Z2b Z36 ?_; refine Z9y b0 a9 a8 j4 rfl rfl rfl rfl Z35 mm2 ?_; refine Z0p rfl rfl rfl rfl rfl rfl ?_; refine Z03 ?_; refine Z01 ?_; rcases Z0g H with ⟨h5, H⟩ | ⟨h5, H⟩
         · refine Z0x rfl h5 ?_; obtain ⟨l9, H⟩ := Z0c H; refine Z04 (ll := [0, 1, 2]) rfl ?_; refine Z05 rfl rfl rfl rfl ?_; refine Z1h l9 rfl rfl rfl rfl rfl ?_; refine Z06 rfl rfl rfl rfl ?_; refine Z03 ?_; refine Z0j ?_; refine Z01 ?_; refine Z0l (Z00 (t := 2) rfl (Z00 (t := 5) rfl (Z00 (t := 6) rfl (Z00 (t := 7) rfl (Z00 (t := 13) rfl (Z00 (t := 61) rfl (Z00 (t := 62) rfl (Z00 (t := 75) rfl (Z00 (t := 76) rfl (Z00 (t := 77) rfl (Z00 (t := 78) rfl (Z00 (t := 79) rfl Z07)))))))))))) ?_; obtain ⟨m0, H⟩ := Z0c H; refine Z04 (ll := [0, 1]) rfl ?_; refine Z1h m0 rfl rfl rfl rfl rfl ?_; refine Z05 rfl rfl rfl rfl ?_; refine Z03 ?_; have H := Z12 H e5; exact Z3z j2 (a3 + 1) (c4 + 1) H (Nat.lt_succ_self _) (Z00 rfl (Z00 rfl (Z00 rfl (Z00 rfl (Z00 rfl (Z00 rfl (Z00 rfl Z07))))))) (Z02 tk0 (Z02 tk0 (Z02 tk0 (Z02 tk0 Z08))))
         · refine Z0y rfl h5 ?_; refine T.skip ?_; refine Z0j ?_; refine Z01 ?_; obtain ⟨m1, H⟩ := Z0c H; refine Z04 (ll := [0, 1]) rfl ?_; refine Z1h m1 rfl rfl rfl rfl rfl ?_; refine Z05 rfl rfl rfl rfl ?_; refine Z03 ?_; have H := Z12 H e5; exact Z3z j2 a3 (c4 + 1) H (Nat.lt_succ_self _) (Z00 rfl (Z00 rfl (Z00 rfl (Z00 rfl (Z00 rfl (Z00 rfl (Z00 rfl Z07))))))) (Z02 tk0 (Z02 tk0 (Z02 tk0 (Z02 tk0 Z08))))
      · refine Z0y rfl h2 ?_; refine T.exit ?_; refine Z0i ?_; have H := Z0s H e5 ▸ h1; refine Z0i ?_; refine Z0t ?_; exact Z2n a3 H (Z00 rfl (Z00 rfl (Z00 rfl (Z00 rfl Z07)))) (Z02 tk0 (Z02 tk0 (Z02 tk1 Z08)))
     ·
      rintro a2 H; unfold Z29 at H; refine Z0b ?_; obtain ⟨⟨h6, o4⟩, m2, H⟩ := Z0k H; refine Z04 (ll := [0, 1, 2, 3, 4, 5, 6, 7]) rfl ?_; refine Z14 rfl rfl rfl rfl Z2c mm0 rfl ?_; refine Z05 rfl rfl rfl rfl ?_; refine Z0n Z9u rfl rfl rfl rfl (fun wc hwc => Za7 (n0 := r3) (f1 := a7) wc (hwc.rs (f := Z66) (s := 3) (xs := r3.Arcs) (j := j8) (fun _ => rfl) mm1 d7 b6 b7) (hwc.rs (f := (intC .i64)) (s := 1) (xs := a7) (j := d8) (fun _ => rfl) mm2 a4 a5 a6) m2) ?_; rintro _ _ ⟨h7, m3, m4, m5, m6, o5, o6, o7, rfl, rfl, h8, h9, m7, m8, m9⟩; refine Z05 rfl rfl rfl rfl ?_; refine TO.extract rfl rfl rfl rfl rfl ?_; refine TO.extract rfl rfl rfl rfl rfl ?_; refine Z06 rfl rfl rfl rfl ?_; refine Z06 rfl rfl rfl rfl ?_; refine Z03 ?_; refine Z01 ?_; refine Z0b ?_; obtain ⟨⟨e6, b9, i2⟩, i4, H⟩ := Z0k H; refine Z04 (ll := [0, 1, 2, 3, 4, 5, 6, 7, 8, 9]) rfl ?_; refine Z14 rfl rfl rfl rfl Z2c mm1 rfl ?_; refine Z05 rfl rfl rfl rfl ?_; refine Z0n Z7g rfl rfl rfl rfl (fun wc hwc => Z78 (n0 := r3) (f1 := a7) wc (hwc.rs (f := Z66) (s := 3) (xs := r3.Arcs) (j := j8) (fun _ => rfl) mm2 d7 b6 b7) (hwc.rs (f := (intC .i64)) (s := 1) (xs := a7) (j := d8) (fun _ => rfl) mm3 a4 a5 a6) i4) ?_; rintro _ _ ⟨c3, c9, d0, i5, rfl, rfl, e7, e8, j5, e9⟩; refine Z05 rfl rfl rfl rfl ?_; refine TO.extract rfl rfl rfl rfl rfl ?_; refine TO.extract rfl rfl rfl rfl rfl ?_; refine TO.extract rfl rfl rfl rfl rfl ?_; refine Z06 rfl rfl rfl rfl ?_; refine Z06 rfl rfl rfl rfl ?_; refine Z06 rfl rfl rfl rfl ?_; refine Z03 ?_; refine Z01 ?_; refine Z0l (Z00 (t := 6) rfl (Z00 (t := 7) rfl (Z00 (t := 13) rfl (Z00 (t := 15) rfl (Z00 (t := 16) rfl (Z00 (t := 17) rfl (Z00 (t := 18) rfl (Z00 (t := 19) rfl Z07)))))))) ?_; refine Z0b ?_; refine Z04 (ll := [0, 1, 2, 3, 4, 5, 6, 7, 8, 9, 10, 11, 12, 13, 14, 15, 16, 17, 18, 19, 20, 21, 22, 23, 24, 25, 26, 27, 28]) rfl ?_; refine Z05 rfl rfl rfl rfl ?_; refine Z0p rfl rfl rfl rfl rfl rfl ?_; refine Z05 rfl rfl rfl rfl ?_; refine TO.join [3, 4, 5] [6, 7, 8, 9, 10, 11, 12, 13, 14, 15, 16, 17, 18, 19, 20, 21, 22, 23, 24, 25, 26, 27, 28] rfl 107 (fun f0 => Z1p a7 b8 a2 h6 e6 b9 f0 = some r0) [(6, .slice (sb b5) e1 e2), (7, .int .i64 b8), (13, .int .i64 a2), (15, .slice h7 m3 m4), (17, .slice (sb c3) c9 d0), (18, .int .i64 b9)] ?_ ?_
      ·
       rcases Z0g H with ⟨d1, H⟩ | ⟨d1, H⟩
       · refine Z0o (t := 104) (b' := true) rfl (decide_eq_true d1) ?_; refine Z05 rfl rfl rfl rfl ?_; refine Z0p rfl rfl rfl rfl rfl rfl ?_; refine Z11 rfl rfl rfl rfl rfl ?_; refine Z03 ?_; exact Zde (b := (decide (i2 = 0))) H (Z00 rfl (Z00 rfl (Z00 rfl (Z00 rfl (Z00 rfl (Z00 rfl (Z00 rfl Z07)))))))
       · refine Z0o (t := 104) (b' := false) rfl (decide_eq_false d1) ?_; refine Z0f rfl rfl rfl rfl ?_; refine Z0f rfl rfl rfl rfl ?_; refine Z13 rfl rfl rfl rfl rfl ?_; refine Z03 ?_; exact Zde (b := false) H (Z00 rfl (Z00 rfl (Z00 rfl (Z00 rfl (Z00 rfl (Z00 rfl (Z00 rfl Z07)))))))
      ·
       rintro f0 H; unfold Z1p at H; refine Z05 rfl rfl rfl rfl ?_; refine TO.join [7, 8, 9, 10] [11, 12, 13, 14, 15, 16, 17, 18, 19, 20, 21, 22, 23, 24, 25, 26, 27, 28] rfl 112 (fun f2 => Z1o a7 b8 a2 e6 b9 f2 = some r0) [(6, .slice (sb b5) e1 e2), (7, .int .i64 b8), (13, .int .i64 a2), (17, .slice (sb c3) c9 d0), (18, .int .i64 b9)] ?_ ?_
       ·
        rcases Z0g H with ⟨d2, H⟩ | ⟨d2, H⟩
        · refine Z0o (t := 108) (b' := true) rfl d2 ?_; refine Z05 rfl rfl rfl rfl ?_; refine Z20 (xs := h6) (h8.len h9) rfl rfl rfl rfl rfl Z9s ?_; refine Z0p rfl rfl rfl rfl rfl rfl ?_; refine Z11 rfl rfl rfl rfl rfl ?_; refine Z03 ?_; exact Zde (b := (decide ((h6.length : Int) = 0))) H (Z00 rfl (Z00 rfl (Z00 rfl (Z00 rfl (Z00 rfl (Z00 rfl Z07))))))
        · refine Z0o (t := 108) (b' := false) rfl (Bool.eq_false_iff.2 d2) ?_; refine Z0f rfl rfl rfl rfl ?_; refine Z0f rfl rfl rfl rfl ?_; refine Z0f rfl rfl rfl rfl ?_; refine Z13 rfl rfl rfl rfl rfl ?_; refine Z03 ?_; exact Zde (b := false) H (Z00 rfl (Z00 rfl (Z00 rfl (Z00 rfl (Z00 rfl (Z00 rfl Z07))))))
       ·
        rintro f2 H; unfold Z1o at H; refine Z05 rfl rfl rfl rfl ?_; refine TO.join [12, 13, 14] [15, 16, 17, 18, 19, 20, 21, 22, 23, 24, 25, 26, 27, 28] rfl 116 (fun f3 => Z1n a7 b8 a2 e6 f3 = some r0) [(6, .slice (sb b5) e1 e2), (7, .int .i64 b8), (13, .int .i64 a2), (17, .slice (sb c3) c9 d0)] ?_ ?_
        ·
         rcases Z0g H with ⟨d3, H⟩ | ⟨d3, H⟩
         · refine Z0o (t := 113) (b' := true) rfl d3 ?_; refine Z05 rfl rfl rfl rfl ?_; refine Z0p rfl rfl rfl rfl rfl rfl ?_; refine Z11 rfl rfl rfl rfl rfl ?_; refine Z03 ?_; exact Zde (b := (decide (b9 = 0))) H (Z00 rfl (Z00 rfl (Z00 rfl (Z00 rfl (Z00 rfl Z07)))))
         · refine Z0o (t := 113) (b' := false) rfl (Bool.eq_false_iff.2 d3) ?_; refine Z0f rfl rfl rfl rfl ?_; refine Z0f rfl rfl rfl rfl ?_; refine Z13 rfl rfl rfl rfl rfl ?_; refine Z03 ?_; exact Zde (b := false) H (Z00 rfl (Z00 rfl (Z00 rfl (Z00 rfl (Z00 rfl Z07)))))
        ·
         rintro f3 H; unfold Z1n at H; refine Z05 rfl rfl rfl rfl ?_; refine TO.join [16, 17, 18, 19] [20, 21, 22, 23, 24, 25, 26, 27, 28] rfl 121 (fun f4 => Z1m b8 a2 f4 = some r0) [(7, .int .i64 b8), (13, .int .i64 a2)] ?_ ?_
         ·
          rcases Z0g H with ⟨d4, H⟩ | ⟨d4, H⟩
          · obtain ⟨i6, i7, H⟩ := Z0k H; refine Z0o (t := 117) (b' := true) rfl d4 ?_; refine Z05 rfl rfl rfl rfl ?_; refine Z05 rfl rfl rfl rfl ?_; refine Z0n Z7e rfl rfl rfl rfl (fun wc hwc => Z4o (a0 := e6) (b1 := a7) wc (hwc.rs (f := (intC .i64)) (s := 1) (xs := e6) (j := i5) (fun _ => rfl) mm0 e7 e8 e9) (hwc.rs (f := (intC .i64)) (s := 1) (xs := a7) (j := d8) (fun _ => rfl) mm4 a4 a5 a6) i7) ?_; rintro _ _ ⟨rfl, rfl⟩; refine Z11 rfl rfl rfl rfl rfl ?_; refine Z03 ?_; exact Zde (b := i6) H (Z00 rfl (Z00 rfl (Z00 rfl Z07)))
          · refine Z0o (t := 117) (b' := false) rfl (Bool.eq_false_iff.2 d4) ?_; refine Z0f rfl rfl rfl rfl ?_; refine Z0f rfl rfl rfl rfl ?_; refine Z0f rfl rfl rfl rfl ?_; refine Z13 rfl rfl rfl rfl rfl ?_; refine Z03 ?_; exact Zde (b := false) H (Z00 rfl (Z00 rfl (Z00 rfl Z07)))
         ·
          rintro f4 H; unfold Z1m at H; refine Z05 rfl rfl rfl rfl ?_; refine TO.join [21, 22, 23, 24] [25, 26, 27, 28] rfl 126 (fun f5 => Z1l f5 = some r0) [] ?_ ?_
          ·
           rcases Z0g H with ⟨d5, H⟩ | ⟨d5, H⟩
           · refine Z0o (t := 122) (b' := true) rfl d5 ?_; refine Z05 rfl rfl rfl rfl ?_; refine Z05 rfl rfl rfl rfl ?_; refine Z0p rfl rfl rfl rfl rfl rfl ?_; refine Z11 rfl rfl rfl rfl rfl ?_; refine Z03 ?_; exact Zde (b := (decide (b8 ≤ a2))) H (Z00 rfl Z07)
           · refine Z0o (t := 122) (b' := false) rfl (Bool.eq_false_iff.2 d5) ?_; refine Z0f rfl rfl rfl rfl ?_; refine Z0f rfl rfl rfl rfl ?_; refine Z0f rfl rfl rfl rfl ?_; refine Z13 rfl rfl rfl rfl rfl ?_; refine Z03 ?_; exact Zde (b := false) H (Z00 rfl Z07)
          ·
           rintro f5 H; unfold Z1l at H; refine Z05 rfl rfl rfl rfl ?_; refine TO.join [26, 27] [28] rfl 129 (fun f6 => Z1k f6 = some r0) [] ?_ ?_
           ·
            rcases Z0g H with ⟨d6, H⟩ | ⟨d6, H⟩
            · obtain ⟨i8, i9, H⟩ := Z0k H; refine Z0o (t := 127) (b' := true) rfl d6 ?_; refine Z0n Z9t rfl rfl rfl rfl (fun wc hwc => Z9f  wc  i9) ?_; rintro _ _ ⟨rfl, rfl⟩; refine Z11 rfl rfl rfl rfl rfl ?_; refine Z03 ?_; exact Zde (b := i8) H (Z00 rfl Z07)
            · refine Z0o (t := 127) (b' := false) rfl (Bool.eq_false_iff.2 d6) ?_; refine Z0f rfl rfl rfl rfl ?_; refine Z13 rfl rfl rfl rfl rfl ?_; refine Z03 ?_; exact Zde (b := false) H (Z00 rfl Z07)
           · rintro f6 H; unfold Z1k at H; refine Z06 rfl rfl rfl rfl ?_; refine Z03 ?_; refine Z01 ?_; refine T.ret ?_; obtain rfl := ret1 H; exact Z0u rfl rfl rfl rfl (Res.tmp rfl) Z08 ⟨rfl, rfl⟩
end Go.Proofs.Ytfdhelnfgfaeaaa.Ax
namespace Go.Acq
open Go
def hit (a : Arc) (v : Nat) : Nat := if a.fr = a.to then 0 else if a.fr = v ∨ a.to = v then 1 else 0
def cnt (al : List Arc) (v : Nat) : Nat → Nat
  | 0 => 0
  | k + 1 => cnt al v k + hit (al.getD k default) v
def Z1v (al : List Arc) : Nat → Nat
  | 0 => 0
  | v + 1 => Z1v al v + cnt al v al.length
def vtx (a : Arc) (s : Bool) : Int := if s then a.to else a.fr
def pos (al : List Arc) (i : Nat) (s : Bool) : Nat := Z1v al (vtx (al.getD i default) s).toNat + cnt al (vtx (al.getD i default) s).toNat i
def Z7y (n : Nat) (al : List Arc) : Prop := ∀ i, i < al.length → ∀ s, 0 ≤ vtx (al.getD i default) s ∧ vtx (al.getD i default) s < n
theorem Zei {α : Type} (xs : List α) (i j : Nat) (v d : α) : (xs.set i v).getD j d = if i = j ∧ i < xs.length then v else xs.getD j d := by
 rw [List.getD_eq_getElem?_getD, List.getD_eq_getElem?_getD, List.getElem?_set]
 split
 ·
  rename_i h; subst h
  split
  · rename_i h2; simp [h2]
  · rename_i h2; simp [h2]
 · rename_i h; simp [h]
theorem Z4e {α : Type} {xs : List α} {i j : Nat} {v d : α} (h : i ≠ j) : (xs.set i v).getD j d = xs.getD j d := by
 rw [Zei, if_neg (fun e => h e.1)]
theorem Z6n {α : Type} {xs : List α} {i : Nat} {v d : α} (h : i < xs.length) : (xs.set i v).getD i d = v := by
 rw [Zei, if_pos ⟨rfl, h⟩]
theorem Z2u {α : Type} (n j : Nat) (v : α) : (List.replicate n v).getD j v = v := by
 rw [List.getD_eq_getElem?_getD, List.getElem?_replicate]; split <;> simp
theorem hit_le (a : Arc) (v : Nat) : hit a v ≤ 1 := by unfold hit; split; omega; split <;> omega
theorem cnt_mono {al : List Arc} {v i j : Nat} (h : i ≤ j) : cnt al v i ≤ cnt al v j := by
 induction h with
 | refl => exact Nat.le_refl _
 | step _ ih => exact Nat.le_trans ih (Nat.le_add_right _ _)
theorem Z9p {al : List Arc} {u v : Nat} (h : u ≤ v) : Z1v al u ≤ Z1v al v := by
 induction h with
 | refl => exact Nat.le_refl _
 | step _ ih => exact Nat.le_trans ih (Nat.le_add_right _ _)
theorem hit_vtx {a : Arc} {s : Bool} (h : a.fr ≠ a.to) (h0 : 0 ≤ vtx a s) : hit a (vtx a s).toNat = 1 := by
 unfold hit; rw [if_neg h, if_pos]
 cases s
 · left; simp only [vtx] at h0 ⊢; simp only [Bool.false_eq_true, if_false] at h0 ⊢; omega
 · right; simp only [vtx] at h0 ⊢; simp only [if_true] at h0 ⊢; omega
theorem Zdr {al : List Arc} {i j : Nat} {s : Bool} (hij : i < j) (h : (al.getD i default).fr ≠ (al.getD i default).to) (h0 : 0 ≤ vtx (al.getD i default) s) :
    cnt al (vtx (al.getD i default) s).toNat i < cnt al (vtx (al.getD i default) s).toNat j := by
  have h1 := cnt_mono (al := al) (v := (vtx (al.getD i default) s).toNat) (i := i + 1) (j := j) hij
  have h2 := hit_vtx h h0
  simp only [cnt] at h1
  omega
theorem pos_lt {al : List Arc} {n i : Nat} {s : Bool} (hi : i < al.length) (h : (al.getD i default).fr ≠ (al.getD i default).to) (he : Z7y n al) : pos al i s < Z1v al n := by
 have h1 := Zdr (s := s) hi h (he i hi s).1
 have h2 := Z9p (al := al) (u := (vtx (al.getD i default) s).toNat + 1) (v := n) (by have := he i hi s; omega)
 simp only [Z1v] at h2
 unfold pos; omega
theorem Zef {al : List Arc} {n i j : Nat} {s t : Bool} (he : Z7y n al) (hi : i < al.length) (hj : j < al.length) (h : (al.getD i default).fr ≠ (al.getD i default).to) (g : (al.getD j default).fr ≠ (al.getD j default).to)
    (e : pos al i s = pos al j t) : i = j ∧ s = t := by
  have hi1 := Zdr (s := s) hi h (he i hi s).1
  have hj1 := Zdr (s := t) hj g (he j hj t).1
  have hv : (vtx (al.getD i default) s).toNat = (vtx (al.getD j default) t).toNat := by
    rcases Nat.lt_trichotomy (vtx (al.getD i default) s).toNat (vtx (al.getD j default) t).toNat with h1 | h1 | h1
    · have := Z9p (al := al) (u := (vtx (al.getD i default) s).toNat + 1) h1
      simp only [Z1v] at this
      unfold pos at e; omega
    · exact h1
    · have := Z9p (al := al) (u := (vtx (al.getD j default) t).toNat + 1) h1
      simp only [Z1v] at this
      unfold pos at e; omega
  have hij : i = j := by
    rcases Nat.lt_trichotomy i j with h1 | h1 | h1
    · have h2 := Zdr (s := s) h1 h (he i hi s).1
      unfold pos at e; rw [hv] at e h2; omega
    · exact h1
    · have h2 := Zdr (s := t) h1 g (he j hj t).1
      unfold pos at e; rw [hv] at e; omega
  refine ⟨hij, ?_⟩
  subst hij
  have h1 := (he i hi s).1
  have h2 := (he i hi t).1
  cases s <;> cases t <;> first | rfl | (simp only [vtx, Bool.false_eq_true, if_false, if_true] at hv h1 h2; omega)
theorem Zf1 {al : List Arc} {v r : Nat} : ∀ {k : Nat}, r < cnt al v k → ∃ i, i < k ∧ cnt al v i = r ∧ hit (al.getD i default) v = 1
 | 0, h => by simp [cnt] at h
 | k + 1, h => by
  by_cases h1 : r < cnt al v k
  · obtain ⟨i, h2, h3⟩ := Zf1 h1; exact ⟨i, by omega, h3⟩
  ·
   have := hit_le (al.getD k default) v
   simp only [cnt] at h
   exact ⟨k, by omega, by omega, by omega⟩
theorem Zbe {al : List Arc} {p : Nat} : ∀ {n : Nat}, p < Z1v al n → ∃ v, v < n ∧ Z1v al v ≤ p ∧ p < Z1v al (v + 1)
 | 0, h => by simp [Z1v] at h
 | n + 1, h => by
  by_cases h1 : p < Z1v al n
  · obtain ⟨v, h2, h3⟩ := Zbe h1; exact ⟨v, by omega, h3⟩
  · exact ⟨n, by omega, by omega, h⟩
theorem pos_surj {al : List Arc} {n p : Nat} (h : p < Z1v al n) : ∃ i s, i < al.length ∧ (al.getD i default).fr ≠ (al.getD i default).to ∧ pos al i s = p ∧ 0 ≤ vtx (al.getD i default) s ∧ vtx (al.getD i default) s < n ∧
    Z1v al (vtx (al.getD i default) s).toNat ≤ p ∧ p < Z1v al ((vtx (al.getD i default) s).toNat + 1) := by
  obtain ⟨v, hv, h1, h2⟩ := Zbe h
  simp only [Z1v] at h2
  obtain ⟨i, hi, h3, h4⟩ := Zf1 (al := al) (v := v) (r := p - Z1v al v) (k := al.length) (by omega)
  unfold hit at h4
  split at h4
  · omega
  · rename_i hne
    split at h4
    · rename_i ho
      rcases ho with ho | ho
      · refine ⟨i, false, hi, hne, ?_, ?_, ?_, ?_, ?_⟩ <;> simp only [pos, vtx, Bool.false_eq_true, if_false, ho, Int.toNat_natCast, Z1v] <;> omega
      · refine ⟨i, true, hi, hne, ?_, ?_, ?_, ?_, ?_⟩ <;> simp only [pos, vtx, if_true, ho, Int.toNat_natCast, Z1v] <;> omega
    · omega
def CsrAt (al : List Arc) (hs rs cs aa : List Int) (bs : List Bool) (k : Nat) : Prop :=
  ∀ i, i < k → (al.getD i default).fr ≠ (al.getD i default).to → ∀ s,
    hs.getD (pos al i s) 0 = vtx (al.getD i default) (!s) ∧ rs.getD (pos al i s) 0 = pos al i (!s) ∧ cs.getD (pos al i s) 0 = (if s then 0 else (al.getD i default).cap) ∧
    aa.getD (pos al i s) 0 = i ∧ bs.getD (pos al i s) false = s
structure CsrOK (al : List Arc) (n : Nat) (fs hs rs cs aa : List Int) (bs : List Bool) : Prop where
  lf : fs.length = n + 1
  lh : hs.length = Z1v al n
  lr : rs.length = Z1v al n
  lc : cs.length = Z1v al n
  la : aa.length = Z1v al n
  lb : bs.length = Z1v al n
  hf : ∀ v, v ≤ n → fs.getD v 0 = Z1v al v
  hat : CsrAt al hs rs cs aa bs al.length
theorem CsrAt.skip {al : List Arc} {hs rs cs aa : List Int} {bs : List Bool} {k : Nat} (h : CsrAt al hs rs cs aa bs k) (e : (al.getD k default).fr = (al.getD k default).to) : CsrAt al hs rs cs aa bs (k + 1) := by
 intro i hi hne s
 rcases Nat.lt_succ_iff_lt_or_eq.1 hi with h1 | h1
 · exact h i h1 hne s
 · subst h1; exact absurd e hne
theorem set2 {α : Type} {xs : List α} {p q j : Nat} {u v d : α} (hp : p < xs.length) (hq : q < xs.length) (hpq : p ≠ q) :
    ((xs.set p u).set q v).getD j d = if j = p then u else if j = q then v else xs.getD j d := by
  rw [Zei, Zei]
  by_cases h1 : j = p
  · subst h1; rw [if_pos rfl, if_neg (fun e => hpq e.1.symm), if_pos ⟨rfl, hp⟩]
  · rw [if_neg h1]
    by_cases h2 : j = q
    · subst h2; rw [if_pos rfl, if_pos ⟨rfl, by simpa using hq⟩]
    · rw [if_neg h2, if_neg (fun e => h2 e.1.symm), if_neg (fun e => h1 e.1.symm)]
theorem CsrAt.put {al : List Arc} {n : Nat} {hs rs cs aa : List Int} {bs : List Bool} {k : Nat} (h : CsrAt al hs rs cs aa bs k) (he : Z7y n al) (hk : k < al.length) (hne : (al.getD k default).fr ≠ (al.getD k default).to)
    (lh : hs.length = Z1v al n) (lr : rs.length = Z1v al n) (lc : cs.length = Z1v al n) (la : aa.length = Z1v al n) (lb : bs.length = Z1v al n) :
    CsrAt al ((hs.set (pos al k false) (al.getD k default).to).set (pos al k true) (al.getD k default).fr) ((rs.set (pos al k false) (pos al k true)).set (pos al k true) (pos al k false))
      ((cs.set (pos al k false) (al.getD k default).cap).set (pos al k true) 0) ((aa.set (pos al k false) k).set (pos al k true) k) ((bs.set (pos al k false) false).set (pos al k true) true) (k + 1) := by
  have hp : pos al k false < Z1v al n := pos_lt hk hne he
  have hq : pos al k true < Z1v al n := pos_lt hk hne he
  have hpq : pos al k false ≠ pos al k true := fun e => by have := (Zef he hk hk hne hne e).2; cases this
  intro i hi hni s
  have hil : i < al.length := by omega
  rw [set2 (by omega) (by omega) hpq, set2 (by omega) (by omega) hpq, set2 (by omega) (by omega) hpq, set2 (by omega) (by omega) hpq, set2 (by omega) (by omega) hpq]
  by_cases hik : i = k
  · subst hik
    cases s
    · simp [vtx]
    · simp [vtx, hpq.symm]
  · have h1 : pos al i s ≠ pos al k false := fun e => hik (Zef he hil hk hni hne e).1
    have h2 : pos al i s ≠ pos al k true := fun e => hik (Zef he hil hk hni hne e).1
    simp only [if_neg h1, if_neg h2]
    exact h i (by omega) hni s
def Counted (al : List Arc) (m k : Nat) (fs : List Int) : Prop := fs.length = m + 1 ∧ fs.getD 0 0 = 0 ∧ ∀ v : Int, 0 ≤ v → v < m → fs.getD (v + 1).toNat 0 = cnt al v.toNat k
def Summed (al : List Arc) (m k : Nat) (fs : List Int) : Prop := fs.length = m + 1 ∧ (∀ u, u ≤ k → fs.getD u 0 = Z1v al u) ∧ ∀ u, k ≤ u → u < m → fs.getD (u + 1) 0 = cnt al u al.length
theorem Counted.start (al : List Arc) (m : Nat) {p : Nat} (h : p = m + 1) : Counted al m 0 (List.replicate p 0) :=
 ⟨by simp [h], Z2u _ _ _, fun v _ _ => by rw [Z2u]; rfl⟩
theorem Counted.skip {al : List Arc} {m k : Nat} {fs : List Int} (h : Counted al m k fs) (e : (al.getD k default).fr = (al.getD k default).to) : Counted al m (k + 1) fs :=
 ⟨h.1, h.2.1, fun v h0 h1 => by rw [h.2.2 v h0 h1]; simp only [cnt, hit, if_pos e, Nat.add_zero]⟩
theorem Counted.put {al : List Arc} {m k : Nat} {fs : List Int} (h : Counted al m k fs) (he : Z7y m al) (hk : k < al.length) (hne : (al.getD k default).fr ≠ (al.getD k default).to) :
    Counted al m (k + 1) ((fs.set ((al.getD k default).fr + 1).toNat (fs.getD ((al.getD k default).fr + 1).toNat 0 + 1)).set ((al.getD k default).to + 1).toNat
      ((fs.set ((al.getD k default).fr + 1).toNat (fs.getD ((al.getD k default).fr + 1).toNat 0 + 1)).getD ((al.getD k default).to + 1).toNat 0 + 1)) := by
  have e0 := he k hk false
  have e1 := he k hk true
  simp only [vtx, Bool.false_eq_true, if_false, if_true] at e0 e1
  obtain ⟨hl, hz, hv⟩ := h
  refine ⟨by simpa using hl, ?_, ?_⟩
  · rw [Z4e (by omega), Z4e (by omega)]; exact hz
  · intro v h0 h1
    have hvv := hv v h0 h1
    rw [Z4e (i := ((al.getD k default).fr + 1).toNat) (j := ((al.getD k default).to + 1).toNat) (by omega), set2 (by omega) (by omega) (by omega)]
    simp only [cnt, hit, if_neg hne]
    by_cases a1 : v = (al.getD k default).fr
    · rw [if_pos (by omega), if_pos (by omega), ← a1, hvv]; omega
    · rw [if_neg (by omega)]
      by_cases a2 : v = (al.getD k default).to
      · rw [if_pos (by omega), if_pos (by omega), ← a2, hvv]; omega
      · rw [if_neg (by omega), if_neg (by omega), hvv]; omega
theorem Summed.put {al : List Arc} {m k : Nat} {fs : List Int} (h : Summed al m k fs) (hk : k < m) {i : Nat} (hi : i = k + 1) : Summed al m (k + 1) (fs.set i (fs.getD i 0 + fs.getD k 0)) := by
 subst hi
 obtain ⟨hl, h1, h2⟩ := h
 refine ⟨by simpa using hl, fun u hu => ?_, fun u h3 h4 => ?_⟩
 ·
  by_cases e : u = k + 1
  · subst e; rw [Z6n (by omega), h1 k (Nat.le_refl _), h2 k (Nat.le_refl _) hk]; simp [Z1v]; omega
  · rw [Z4e (by omega)]; exact h1 u (by omega)
 · rw [Z4e (by omega)]; exact h2 u (by omega) h4
theorem Z8e {N S T : Int} {al : List Arc} (h : Zar N S T al = 0) : (2 ≤ N ∧ N ≤ 4096) ∧ (al.length : Int) ≤ 16384 ∧ (Z5i N S = true ∧ Z5i N T = true ∧ S ≠ T) ∧ al.all (Zaw N) = true ∧ al.all capB = true ∧ (Zdg 4611686018427387904 al).isSome = true := by
 unfold Zar at h
 split at h
 · omega
 ·
  rename_i h1
  split at h
  · omega
  ·
   rename_i h2
   split at h
   · omega
   ·
    rename_i h3
    split at h
    · omega
    ·
     rename_i h4
     split at h
     · omega
     ·
      rename_i h5
      split at h
      · omega
      ·
       rename_i h6
       refine ⟨Classical.not_not.1 h1, Classical.not_not.1 h2, Classical.not_not.1 h3, by simpa using h4, by simpa using h5, ?_⟩
       cases e : Zdg 4611686018427387904 al <;> simp_all
theorem Zdq {m : Nat} {al : List Arc} (h : al.all (Zaw (m : Int)) = true) : Z7y m al := by
 intro i hi s
 have h1 := List.all_eq_true.1 h _ (Z8c hi default)
 simp only [Zaw, Z5i, Bool.and_eq_true, decide_eq_true_eq] at h1
 cases s
 · simp only [vtx, Bool.false_eq_true, if_false]; exact h1.1
 · simp only [vtx, if_true]; exact h1.2
def MakeAt (al : List Arc) (m k : Nat) (nx hs rs cs aa : List Int) (bs : List Bool) : Prop :=
  (nx.length = m + 1 ∧ hs.length = Z1v al m ∧ rs.length = Z1v al m ∧ cs.length = Z1v al m ∧ aa.length = Z1v al m ∧ bs.length = Z1v al m) ∧
  CsrAt al hs rs cs aa bs k ∧ ∀ v : Int, 0 ≤ v → v < m → nx.getD v.toNat 0 = Z1v al v.toNat + cnt al v.toNat k
theorem MakeAt.start {al : List Arc} {m : Nat} {fs : List Int} (hl : fs.length = m + 1) (hf : ∀ u, u ≤ m → fs.getD u 0 = Z1v al u) :
    MakeAt al m 0 fs (List.replicate (Z1v al m) 0) (List.replicate (Z1v al m) 0) (List.replicate (Z1v al m) 0) (List.replicate (Z1v al m) 0) (List.replicate (Z1v al m) false) := by
  refine ⟨⟨hl, by simp, by simp, by simp, by simp, by simp⟩, fun i hi => by omega, fun v h0 h1 => ?_⟩
  rw [hf _ (by omega)]; simp [cnt]
theorem MakeAt.skip {al : List Arc} {m k : Nat} {nx hs rs cs aa : List Int} {bs : List Bool} (h : MakeAt al m k nx hs rs cs aa bs) (e : (al.getD k default).fr = (al.getD k default).to) : MakeAt al m (k + 1) nx hs rs cs aa bs :=
 ⟨h.1, h.2.1.skip e, fun v h0 h1 => by rw [h.2.2 v h0 h1]; simp only [cnt, hit, if_pos e, Nat.add_zero]⟩
theorem MakeAt.at {al : List Arc} {m k : Nat} {nx hs rs cs aa : List Int} {bs : List Bool} (h : MakeAt al m k nx hs rs cs aa bs) (he : Z7y m al) (hk : k < al.length) (s : Bool) : nx.getD (vtx (al.getD k default) s).toNat 0 = (pos al k s : Nat) := by
 rw [h.2.2 _ (he k hk s).1 (he k hk s).2]; simp only [pos]; omega
theorem MakeAt.put {al : List Arc} {m k : Nat} {nx hs rs cs aa : List Int} {bs : List Bool} (h : MakeAt al m k nx hs rs cs aa bs) (he : Z7y m al) (hk : k < al.length) (hne : (al.getD k default).fr ≠ (al.getD k default).to) :
    MakeAt al m (k + 1) ((nx.set (al.getD k default).fr.toNat ((pos al k false : Nat) + 1)).set (al.getD k default).to.toNat ((pos al k true : Nat) + 1))
      ((hs.set (pos al k false) (al.getD k default).to).set (pos al k true) (al.getD k default).fr) ((rs.set (pos al k false) (pos al k true)).set (pos al k true) (pos al k false))
      ((cs.set (pos al k false) (al.getD k default).cap).set (pos al k true) 0) ((aa.set (pos al k false) k).set (pos al k true) k) ((bs.set (pos al k false) false).set (pos al k true) true) := by
  have g0 := h.at he hk false
  have g1 := h.at he hk true
  obtain ⟨⟨l0, l1, l2, l3, l4, l5⟩, hA, hv⟩ := h
  have e0 := he k hk false
  have e1 := he k hk true
  simp only [vtx, Bool.false_eq_true, if_false, if_true] at e0 e1 g0 g1
  refine ⟨⟨by simpa using l0, by simpa using l1, by simpa using l2, by simpa using l3, by simpa using l4, by simpa using l5⟩, hA.put he hk hne l1 l2 l3 l4 l5, fun v h0 h1 => ?_⟩
  have hvv := hv v h0 h1
  rw [set2 (by omega) (by omega) (by omega)]
  simp only [cnt, hit, if_neg hne]
  by_cases a1 : v = (al.getD k default).fr
  · rw [if_pos (by omega), if_pos (by omega), ← g0, ← a1, hvv]; omega
  · rw [if_neg (by omega)]
    by_cases a2 : v = (al.getD k default).to
    · rw [if_pos (by omega), if_pos (by omega), ← g1, ← a2, hvv]; omega
    · rw [if_neg (by omega), if_neg (by omega), hvv]; omega
theorem MakeAt.done {al : List Arc} {m : Nat} {fs nx hs rs cs aa : List Int} {bs : List Bool} (h : MakeAt al m al.length nx hs rs cs aa bs) (hl : fs.length = m + 1) (hf : ∀ u, u ≤ m → fs.getD u 0 = Z1v al u) : CsrOK al m fs hs rs cs aa bs :=
 ⟨hl, h.1.2.1, h.1.2.2.1, h.1.2.2.2.1, h.1.2.2.2.2.1, h.1.2.2.2.2.2, hf, h.2.1⟩
end Go.Acq
namespace Go.Acq
open Go
theorem next_ne {S m : Int} (h0 : 0 ≤ S) (h1 : S < m) (h2 : 2 ≤ m) : 0 ≤ (S + 1).tmod m ∧ (S + 1).tmod m < m ∧ (S + 1).tmod m ≠ S := by
 rw [Int.tmod_eq_emod_of_nonneg (by omega)]
 refine ⟨Int.emod_nonneg _ (by omega), Int.emod_lt_of_pos _ (by omega), ?_⟩
 by_cases h : S + 1 < m
 · rw [Int.emod_eq_of_lt (by omega) h]; omega
 · rw [show S + 1 = m by omega, Int.emod_self]; omega
theorem Zc3 {x n : Int} (h : 0 ≤ x) (hn : 0 < n) : 0 ≤ x.tmod n ∧ x.tmod n < n := by
 rw [Int.tmod_eq_emod_of_nonneg h]
 exact ⟨Int.emod_nonneg _ (by omega), Int.emod_lt_of_pos _ hn⟩
def SomeAt (m : Nat) (ol : List Arc) : Prop := ∀ a, a ∈ ol → Zaw m a = true ∧ 0 ≤ a.cap ∧ a.cap < 1125899906842624
theorem SomeAt.put {m : Nat} {ol : List Arc} {a : Arc} (h : SomeAt m ol) (h1 : 0 ≤ a.fr ∧ a.fr < m) (h2 : 0 ≤ a.to ∧ a.to < m) (h3 : 0 ≤ a.cap ∧ a.cap < 1125899906842624) : SomeAt m (ol ++ [a]) := by
 intro b hb
 rcases List.mem_append.1 hb with hb | hb
 · exact h b hb
 ·
  simp only [List.mem_singleton] at hb
  subst hb
  exact ⟨by simp [Zaw, Z5i, h1, h2], h3⟩
theorem Zgf {m : Nat} {ol : List Arc} {left : Int} (h : SomeAt m ol) (hl : (ol.length : Int) * 1125899906842624 ≤ left) : (Zdg left ol).isSome = true := by
 induction ol generalizing left with
 | nil => simp [Zdg]
 | cons a ol ih =>
  have ha := (h a (.head _)).2
  simp only [List.length_cons] at hl
  have h2 : (0 : Int) ≤ (ol.length : Int) * 1125899906842624 := by omega
  simp only [Zdg]
  rw [if_neg (by omega)]
  exact ih (fun b hb => h b (.tail _ hb)) (by omega)
theorem Zff {m : Nat} {S T : Int} {ol : List Arc} (hm : 2 ≤ m) (hm2 : m ≤ 4096) (hS : 0 ≤ S ∧ S < m) (hT : 0 ≤ T ∧ T < m) (hST : T ≠ S) (h : SomeAt m ol) (hl : ol.length ≤ 4096) : Zar m S T ol = 0 := by
 have h1 : ol.all (Zaw m) = true := List.all_eq_true.2 fun a ha => (h a ha).1
 have h2 : ol.all capB = true := List.all_eq_true.2 fun a ha => by simp [capB, (h a ha).2.1]
 have h3 : (Zdg 4611686018427387904 ol).isSome = true := Zgf h (by omega)
 unfold Zar
 rw [if_neg (by omega), if_neg (by omega), if_neg (by simp [Z5i, hS, hT, Ne.symm hST]), if_neg (by simp [h1]), if_neg (by simp [h2]), if_neg (by
  cases e : Zdg 4611686018427387904 ol with
  | none => rw [e] at h3; cases h3
  | some x => simp)]
def WithinAt (al : List Arc) (n k : Nat) (fl : List Int) : Prop := fl.length = n ∧
  (∀ i, i < k → 0 ≤ fl.getD i 0 ∧ fl.getD i 0 ≤ (al.getD i default).cap ∧ ((al.getD i default).fr = (al.getD i default).to → fl.getD i 0 = 0)) ∧ ∀ i, k ≤ i → fl.getD i 0 = 0
theorem Zc1 (al : List Arc) (n : Nat) : WithinAt al n 0 (List.replicate n 0) := ⟨by simp, fun i h => by omega, fun i _ => Z2u _ _ _⟩
theorem WithinAt.skip {al : List Arc} {n k : Nat} {fl : List Int} (h : WithinAt al n k fl) (hc : 0 ≤ (al.getD k default).cap) : WithinAt al n (k + 1) fl := by
 refine ⟨h.1, fun i hi => ?_, fun i hi => h.2.2 i (by omega)⟩
 rcases Nat.lt_succ_iff_lt_or_eq.1 hi with h1 | h1
 · exact h.2.1 i h1
 · subst h1; have := h.2.2 i (Nat.le_refl _); rw [this]; exact ⟨Int.le_refl _, hc, fun _ => rfl⟩
theorem WithinAt.put {al : List Arc} {n k : Nat} {fl : List Int} {v : Int} (h : WithinAt al n k fl) (hk : k < n) (h0 : 0 ≤ v) (h1 : v ≤ (al.getD k default).cap) (hne : (al.getD k default).fr ≠ (al.getD k default).to) : WithinAt al n (k + 1) (fl.set k v) := by
 refine ⟨by simpa using h.1, fun i hi => ?_, fun i hi => by rw [Z4e (by omega)]; exact h.2.2 i (by omega)⟩
 by_cases e : i = k
 · subst e; rw [Z6n (by rw [h.1]; exact hk)]; exact ⟨h0, h1, fun e => absurd e hne⟩
 · rw [Z4e (by omega)]; exact h.2.1 i (by omega)
def resOK (aa cs : List Int) (bs : List Bool) (fl : List Int) (j : Nat) : Prop := aa.getD j 0 < fl.length ∧ (bs.getD j false = true ∨ (0 ≤ fl.getD (aa.getD j 0).toNat 0 ∧ fl.getD (aa.getD j 0).toNat 0 ≤ cs.getD j 0))
def resV (aa cs : List Int) (bs : List Bool) (fl : List Int) (j : Nat) : Int := if bs.getD j false = true then fl.getD (aa.getD j 0).toNat 0 else cs.getD j 0 - fl.getD (aa.getD j 0).toNat 0
def ResAt (aa cs : List Int) (bs : List Bool) (fl : List Int) (L k : Nat) (rl : List Int) : Prop := rl.length = L ∧ ∀ j, j < k → resOK aa cs bs fl j ∧ rl.getD j 0 = resV aa cs bs fl j
theorem ResAt.put {aa cs : List Int} {bs : List Bool} {fl : List Int} {L k : Nat} {rl : List Int} {v : Int} (h : ResAt aa cs bs fl L k rl) (hk : k < L) (h1 : resOK aa cs bs fl k) (h2 : v = resV aa cs bs fl k) : ResAt aa cs bs fl L (k + 1) (rl.set k v) := by
 refine ⟨by simpa using h.1, fun j hj => ?_⟩
 by_cases e : j = k
 · subst e; rw [Z6n (by rw [h.1]; exact hk)]; exact ⟨h1, h2⟩
 · rw [Z4e (by omega)]; exact h.2 j (by omega)
end Go.Acq
namespace Go.Acq
open Go
theorem CsrOK.place {al : List Arc} {m : Nat} {fs hs rs cs aa : List Int} {bs : List Bool} (h : CsrOK al m fs hs rs cs aa bs) {j : Nat} (hj : j < Z1v al m) :
    ∃ i s, i < al.length ∧ (al.getD i default).fr ≠ (al.getD i default).to ∧ pos al i s = j ∧ hs.getD j 0 = vtx (al.getD i default) (!s) ∧ rs.getD j 0 = pos al i (!s) ∧ cs.getD j 0 = (if s then 0 else (al.getD i default).cap) ∧ aa.getD j 0 = i ∧ bs.getD j false = s := by
  obtain ⟨i, s, hi, hne, hp, _⟩ := pos_surj hj
  have := h.hat i hi hne s
  rw [hp] at this
  exact ⟨i, s, hi, hne, hp, this⟩
end Go.Acq
namespace Go.Acq
open Go
theorem Zeh {α : Type} {m : Option α} {v : α} (h : Ok m (fun a => a = v)) : m = some v := by obtain ⟨a, h1, h2⟩ := h; rw [h1, h2]
theorem Za8 {α : Type} {m : Option α} {v : α} {Q : α → Prop} (h : m = some v) (q : Q v) : Ok m Q := ⟨v, h, q⟩
abbrev lenok (n : Nat) : Prop := n ≤ 9223372036854775807
theorem Zb7 {x n : Int} (h1 : n ≤ 4611686018427387904) : Z1t x n = some (Zbf x n) := by
 unfold Z1t Zbf
 by_cases h : n < 1
 · rw [if_pos h, if_pos h]
 ·
  have a1 := Int.tmod_lt_of_pos x (show 0 < n by omega)
  have a2 := Zba x (show 0 < n by omega)
  rw [if_neg h, if_neg h, Zew (by omega), Zew (by constructor <;> omega), Zew (by omega)]
theorem Zgi {a b : List Int} (h : lenok a.length) : Z2g a b = some (decide (a = b)) := by
 refine Zeh ?_
 unfold Z2g
 refine Ok.ite.2 ⟨fun hl => Ok.some.2 (decide_eq_false ?_).symm, fun hl => ?_⟩
 · rintro rfl; exact hl rfl
 ·
  refine Ok.bind.2 (Zbr (fun x => 0 ≤ x ∧ x ≤ a.length ∧ ∀ i, i < x.toNat → a.getD i 0 = b.getD i 0) (fun x => (a.length - x).toNat) ⟨by omega, by omega, fun i hi => by omega⟩ (by unfold Z5f; omega) ?_)
  rintro x ⟨h0, h1, h2⟩
  unfold Z2w
  refine Ok.ite.2 ⟨fun hx => ?_, fun hx => ?_⟩
  ·
   refine Ok.gd.2 ⟨(by omega), Ok.gd.2 ⟨(by omega), Ok.ite.2 ⟨fun hne => ?_, fun hne => ?_⟩⟩⟩
   ·
    refine Ok.some.2 (Ok.some.2 (decide_eq_false ?_).symm)
    rintro rfl; exact hne rfl
   ·
    refine Ok.gd.2 ⟨(by omega), Ok.some.2 ⟨⟨by omega, by omega, fun i hi => ?_⟩, by omega⟩⟩
    rcases Nat.lt_or_ge i x.toNat with h3 | h3
    · exact h2 i h3
    · rw [show i = x.toNat by omega]; exact Classical.not_not.1 hne
  ·
   refine Ok.some.2 (Ok.some.2 (decide_eq_true ?_).symm)
   exact Zc8 0 (by omega) (fun i hi => h2 i (by omega))
theorem Zay (n : Net) (v : Int) : Z4h n v = some (Z5i n.N v) := by
 unfold Z4h Z5i
 by_cases h : 0 ≤ v <;> simp [h]
theorem s_rules4 (n : Net) (a : Arc) : Z63 n a = some (Zaw n.N a) := by
 unfold Z63 Zaw
 rw [Zay, Zay]
 simp only [Option.bind_some]
 cases Z5i n.N a.fr <;> simp
theorem s_of4 (n : Net) (h : lenok n.Arcs.length) : Z3w n = some (n.Arcs.all (Zaw n.N)) := by
 refine Zeh ?_
 unfold Z3w Z18 Z1e
 refine Ok.bind.2 (Ok.bind.2 (Ok.bind.2 (Zbr (fun x => 0 ≤ x ∧ x ≤ n.Arcs.length ∧ ∀ i, i < x.toNat → Zaw n.N (n.Arcs.getD i default) = true) (fun x => (n.Arcs.length - x).toNat) ⟨by omega, by omega, fun i hi => by omega⟩ (by unfold Z5f; omega) ?_)))
 rintro x ⟨h0, h1, h2⟩
 unfold Z10 Z47
 refine Ok.ite.2 ⟨fun hx => ?_, fun hx => ?_⟩
 ·
  refine Ok.gd.2 ⟨(by omega), Ok.bind.2 (Ok.bind.2 (Za8 (s_rules4 _ _) (Ok.some.2 (Ok.ite.2 ⟨fun hb => ?_, fun hb => ?_⟩))))⟩
  ·
   refine Ok.some.2 (Ok.some.2 (Ok.some.2 (Ok.some.2 ?_)))
   simp only [h0, decide_true, Bool.not_true]
   refine Eq.symm (Bool.eq_false_iff.2 fun hall => ?_)
   have := List.all_eq_true.1 hall _ (Z8c (show x.toNat < n.Arcs.length by omega) default)
   rw [this] at hb; cases hb
  ·
   refine Ok.gd.2 ⟨(by omega), Ok.some.2 ⟨⟨by omega, by omega, fun i hi => ?_⟩, by omega⟩⟩
   rcases Nat.lt_or_ge i x.toNat with h3 | h3
   · exact h2 i h3
   · rw [show i = x.toNat by omega]; simpa using hb
 ·
  refine Ok.some.2 (Ok.some.2 (Ok.some.2 (Ok.some.2 ?_)))
  refine Eq.symm (List.all_eq_true.2 fun a ha => ?_)
  obtain ⟨i, hi, rfl⟩ := List.getElem_of_mem ha
  have := h2 i (by omega)
  rwa [List.getD_eq_getElem?_getD, List.getElem?_eq_getElem hi] at this
theorem s_of5 (n : Net) (h : lenok n.Arcs.length) : Z3v n = some (n.Arcs.all capB) := by
 refine Zeh ?_
 unfold Z3v Z17 Z1d
 refine Ok.bind.2 (Ok.bind.2 (Ok.bind.2 (Zbr (fun x => 0 ≤ x ∧ x ≤ n.Arcs.length ∧ ∀ i, i < x.toNat → capB (n.Arcs.getD i default) = true) (fun x => (n.Arcs.length - x).toNat) ⟨by omega, by omega, fun i hi => by omega⟩ (by unfold Z5f; omega) ?_)))
 rintro x ⟨h0, h1, h2⟩
 unfold Z0z Z46 Z6s
 refine Ok.ite.2 ⟨fun hx => ?_, fun hx => ?_⟩
 ·
  refine Ok.gd.2 ⟨(by omega), Ok.bind.2 (Ok.bind.2 (Ok.some.2 (Ok.some.2 (Ok.ite.2 ⟨fun hb => ?_, fun hb => ?_⟩))))⟩
  ·
   refine Ok.some.2 (Ok.some.2 (Ok.some.2 (Ok.some.2 ?_)))
   simp only [h0, decide_true, Bool.not_true]
   refine Eq.symm (Bool.eq_false_iff.2 fun hall => ?_)
   have := List.all_eq_true.1 hall _ (Z8c (show x.toNat < n.Arcs.length by omega) default)
   simp only [capB] at this
   rw [this] at hb; cases hb
  ·
   refine Ok.gd.2 ⟨(by omega), Ok.some.2 ⟨⟨by omega, by omega, fun i hi => ?_⟩, by omega⟩⟩
   rcases Nat.lt_or_ge i x.toNat with h3 | h3
   · exact h2 i h3
   · rw [show i = x.toNat by omega]; simpa [capB] using hb
 ·
  refine Ok.some.2 (Ok.some.2 (Ok.some.2 (Ok.some.2 ?_)))
  refine Eq.symm (List.all_eq_true.2 fun a ha => ?_)
  obtain ⟨i, hi, rfl⟩ := List.getElem_of_mem ha
  have := h2 i (by omega)
  rwa [List.getD_eq_getElem?_getD, List.getElem?_eq_getElem hi] at this
theorem s_Sum (n : Net) (h : lenok n.Arcs.length) : Z8q n = some (match Zdg 4611686018427387904 n.Arcs with | some l => (4611686018427387904 - l, true) | none => (0, false)) := by
 refine Zeh ?_
 unfold Z8q
 refine Ok.bind.2 (Zbr (fun s => 0 ≤ s.2 ∧ s.2 ≤ n.Arcs.length ∧ 0 ≤ s.1 ∧ s.1 ≤ 4611686018427387904 ∧ Zdg 4611686018427387904 n.Arcs = Zdg s.1 (n.Arcs.drop s.2.toNat)) (fun s => (n.Arcs.length - s.2).toNat) ⟨by simp, by simp, by simp, by simp, by simp⟩ (by unfold Z5f; simp; omega) ?_)
 rintro ⟨left, x⟩ ⟨h0, h1, h2, h3, h4⟩
 simp only at h0 h1 h2 h3 h4 ⊢
 unfold Z6k Z6l
 refine Ok.ite.2 ⟨fun hx => ?_, fun hx => ?_⟩
 ·
  rw [Zdf (by omega)] at h4
  refine Ok.gd.2 ⟨(by omega), Ok.ite.2 ⟨fun hb => ?_, fun hb => ?_⟩⟩
  ·
   rw [if_pos rfl]
   refine Ok.some.2 (Ok.some.2 ?_)
   rw [h4, if_pos (.inl hb)]
  ·
   by_cases hc : left < (n.Arcs.getD x.toNat default).cap
   ·
    rw [if_pos (decide_eq_true hc)]
    refine Ok.some.2 (Ok.some.2 ?_)
    rw [h4, if_pos (.inr hc)]
   ·
    rw [if_neg (by simpa using hc)]
    refine Ok.gd.2 ⟨(by omega), Ok.gd.2 ⟨(by omega), Ok.some.2 ⟨⟨by simp only; omega, by simp only; omega, by simp only; omega, by simp only; omega, ?_⟩, by simp only; omega⟩⟩⟩
    rw [h4, if_neg (by omega)]
    simp only
    rw [show (x + 1).toNat = x.toNat + 1 by omega]
 ·
  unfold Z7m
  refine Ok.some.2 (Ok.gd.2 ⟨(by omega), Ok.some.2 ?_⟩)
  rw [h4, List.drop_eq_nil_of_le (by omega)]
  rfl
theorem s_Check (n : Net) (h : lenok n.Arcs.length) : Z7a n = some (Zar n.N n.S n.T n.Arcs) := by
 unfold Z7a Z8b Z5o Z5n Z6v Z6u Z6t Z6r Z6g
 rw [Zay, Zay, s_of4 n h, s_of5 n h, s_Sum n h]
 unfold Zar
 simp only [Option.bind_some]
 by_cases h1 : 2 ≤ n.N ∧ n.N ≤ 4096
 ·
  rw [if_pos h1.1, if_neg (not_not_intro h1)]
  simp only [Option.bind_some, decide_eq_true h1.2, Bool.not_true, Bool.false_eq_true, if_false]
  by_cases h2 : (n.Arcs.length : Int) ≤ 16384
  ·
   rw [if_neg (by simp [h2]), if_neg (not_not_intro h2)]
   by_cases h3 : Z5i n.N n.S = true ∧ Z5i n.N n.T = true ∧ n.S ≠ n.T
   ·
    rw [if_pos h3.1, if_pos h3.2.1, if_neg (not_not_intro h3)]
    simp only [Option.bind_some, decide_eq_true h3.2.2, Bool.not_true, Bool.false_eq_true, if_false]
    cases h4 : n.Arcs.all (Zaw n.N)
    · simp
    ·
     cases h5 : n.Arcs.all capB
     · simp
     · cases h6 : Zdg 4611686018427387904 n.Arcs <;> simp
   ·
    rw [if_pos h3]
    by_cases a1 : Z5i n.N n.S = true
    ·
     by_cases a2 : Z5i n.N n.T = true
     ·
      have a3 : ¬ n.S ≠ n.T := fun e => h3 ⟨a1, a2, e⟩
      simp [a1, a2, a3]
     · simp [a1, a2]
    · simp [a1]
  · rw [if_pos (by simp [h2]), if_pos h2]
 ·
  rw [if_pos h1]
  by_cases a1 : 2 ≤ n.N
  ·
   have a2 : ¬ n.N ≤ 4096 := fun e => h1 ⟨a1, e⟩
   simp [a1, a2]
  · simp [a1]
end Go.Acq
namespace Go.Acq
open Go
set_option linter.unusedSimpArgs false
structure NetIn (n : Net) : Prop where
  nN : i64ok n.N
  nS : i64ok n.S
  nT : i64ok n.T
  arcs : ∀ a, a ∈ n.Arcs → i64ok a.fr ∧ i64ok a.to ∧ i64ok a.cap
  len : n.Arcs.length ≤ 9223372036854775807
structure RowIn (l : List Int) : Prop where
  row : ∀ x, x ∈ l → i64ok x
  len : l.length ≤ 9223372036854775807
structure Made (n : Net) (v a : Int) : Prop where
  check : Zar n.N n.S n.T n.Arcs = 0
  rows : SomeAt n.N.toNat n.Arcs
  verts : n.N ≤ v
  arcs : (n.Arcs.length : Int) ≤ a
  ends : 2 ≤ n.N ∧ 0 ≤ n.S ∧ n.S < n.N ∧ 0 ≤ n.T ∧ n.T < n.N ∧ n.S ≠ n.T
theorem Made.nat {n : Net} {v a : Int} (h : Made n v a) : ∃ m : Nat, n.N = m ∧ SomeAt m n.Arcs := ⟨n.N.toNat, by have := h.ends.1; omega, h.rows⟩
theorem Zi4 {n : Net} {m : Nat} (h : SomeAt m n.Arcs) : ∀ i, i < n.Arcs.length → 0 ≤ (n.Arcs.getD i default).cap ∧ (n.Arcs.getD i default).cap < 1125899906842624 := fun _ hi => (h _ (Z8c hi default)).2
theorem s_Some {n : Net} {v a : Int} (h : NetIn n) (hv0 : 2 ≤ v) (hv1 : v ≤ 4096) (ha0 : 0 ≤ a) (ha1 : a ≤ 4096) : Ok (Z4d n v a) (fun r => Made r v a) := by
 have hN := Z7b (x := n.N) (n := v - 1) (by omega)
 unfold Z4d
 refine Ok.gd.2 ⟨(by omega), Ok.bind.2 (Za8 (Zb7 (by omega)) (Ok.gd.2 ⟨(by omega), ?_⟩))⟩
 obtain ⟨m, hm⟩ : ∃ m : Nat, 2 + Zbf n.N (v - 1) = m := ⟨(2 + Zbf n.N (v - 1)).toNat, by omega⟩
 rw [hm]
 have hS := Z7b (x := n.S) (n := (m : Int)) (by omega)
 have hT := Z7b (x := n.T) (n := (m : Int)) (by omega)
 refine Ok.bind.2 (Za8 (Zb7 (by omega)) (Ok.bind.2 (Za8 (Zb7 (by omega)) ?_)))
 have key : ∀ t : Int, 0 ≤ t → t < m → t ≠ Zbf n.S m → Ok (Z2k n a (Zbf n.N (v - 1)) (Zbf n.S m) t) (fun r => Made r v a) := by
  intro t t0 t1 t2
  unfold Z2k
  refine Ok.gd.2 ⟨(by omega), Ok.bind.2 ?_⟩
  obtain ⟨q, hq⟩ : ∃ q : Nat, min (n.Arcs.length : Int) a = q := ⟨(min (n.Arcs.length : Int) a).toNat, by omega⟩
  obtain ⟨al, hal⟩ : ∃ l, l = n.Arcs.take (q : Int).toNat := ⟨_, rfl⟩
  have hlen : al.length = q := by rw [hal, List.length_take]; omega
  have hcap : ∀ b, b ∈ al → i64ok b.cap := fun b hb => (h.arcs b (List.mem_of_mem_take (by rw [← hal]; exact hb))).2.2
  refine Zap (fun s => ∃ k : Nat, s.2 = k ∧ k ≤ q ∧ s.1.length = k ∧ SomeAt m s.1) (fun s => (q - s.2).toNat) ⟨0, rfl, by omega, rfl, fun b hb => by cases hb⟩ (by unfold Z5f; simp only; omega) ?_
  rintro ⟨ol, x⟩ ⟨k, h1, h2, h3, h4⟩ P next exit
  simp only at h1 h2 h3 h4 next ⊢
  subst h1
  unfold Z39
  rw [hq, ← hal]
  simp only [Int.toNat_natCast]
  refine Ok.ite.2 ⟨fun hx => ?_, fun hx => ?_⟩
  ·
   have hkl : k < al.length := by omega
   have hc := hcap _ (Z8c hkl default)
   have hj : ∀ c : Int, 0 ≤ c → Ok (Z2j n a (Zbf n.N (v - 1)) ol k c) P := by
    intro c hc0
    unfold Z2j
    rw [hq, ← hal, hm]
    refine Ok.bind.2 (Za8 (Zb7 (by omega)) (Ok.bind.2 (Za8 (Zb7 (by omega)) (Ok.gd.2 ⟨?_, Ok.gd.2 ⟨(by omega), Ok.some.2 (next _ ⟨k + 1, by simp, by omega, by simp [h3], ?_⟩ (by simp only; omega))⟩⟩))))
    · rw [List.length_append, h3]; simp only [List.length_cons, List.length_nil]; constructor <;> omega
    · exact h4.put (Z7b (by omega)) (Z7b (by omega)) (Zc3 hc0 (by omega))
   refine Ok.gd.2 ⟨(by omega), Ok.ite.2 ⟨fun hn => ?_, fun hn => ?_⟩⟩
   · exact Ok.gd.2 ⟨by constructor <;> omega, Ok.gd.2 ⟨by constructor <;> omega, hj (-((al.getD k default).cap + 1)) (by omega)⟩⟩
   · exact hj (al.getD k default).cap (by omega)
  ·
   refine Ok.some.2 (exit _ ?_)
   unfold Z48
   refine Ok.some.2 ?_
   rw [hm]
   exact ⟨Zff (by omega) (by omega) hS ⟨t0, t1⟩ t2 h4 (show ol.length ≤ 4096 by omega), by simpa using h4, by simp only; omega, by show (ol.length : Int) ≤ a; omega, ⟨by simp only; omega, hS.1, hS.2, t0, t1, fun e => t2 e.symm⟩⟩
 refine Ok.ite.2 ⟨fun he => ?_, fun he => ?_⟩
 ·
  refine Ok.gd.2 ⟨(by omega), Ok.gd.2 ⟨by omega, ?_⟩⟩
  obtain ⟨n1, n2, n3⟩ := next_ne hS.1 hS.2 (by omega)
  exact key _ n1 n2 n3
 · exact key _ hT.1 hT.2 (fun e => he e.symm)
theorem s_Within {n : Net} {l : List Int} (hn : n.Arcs.length ≤ 4096) (hc : ∀ i, i < n.Arcs.length → 0 ≤ (n.Arcs.getD i default).cap) (hl : RowIn l) : Ok (Z3k n l) (fun r => WithinAt n.Arcs n.Arcs.length n.Arcs.length r) := by
 unfold Z3k
 have hll := hl.len
 refine Ok.gd.2 ⟨(by omega), Ok.bind.2 (Zap (fun s => ∃ k : Nat, s.2 = k ∧ k ≤ n.Arcs.length ∧ WithinAt n.Arcs n.Arcs.length k s.1) (fun s => (n.Arcs.length - s.2).toNat) ⟨0, rfl, by omega, by simpa using Zc1 n.Arcs n.Arcs.length⟩ (by unfold Z5f; simp only; omega) ?_)⟩
 rintro ⟨fl, x⟩ ⟨k, h1, h2, h3⟩ P next exit
 simp only at h1 h2 h3 next ⊢
 subst h1
 unfold Z2r
 refine Ok.ite.2 ⟨fun hx => ?_, fun hx => ?_⟩
 ·
  have hkl : k < n.Arcs.length := by omega
  have hck := hc k hkl
  have hfl := h3.1
  have hj3 : ∀ y : Int, (n.Arcs.getD k default).fr ≠ (n.Arcs.getD k default).to → 0 ≤ y → Ok (Z27 n fl k y) P := by
   intro y hne hy
   unfold Z27
   refine Ok.gd.2 ⟨by constructor <;> omega, Ok.gd.2 ⟨(by omega), Ok.some.2 (next _ ⟨k + 1, by simp, by omega, ?_⟩ (by simp only; omega))⟩⟩
   simp only [Int.toNat_natCast]
   exact h3.put hkl (by omega) (by omega) hne
  have hj2 : ∀ y : Int, (n.Arcs.getD k default).fr ≠ (n.Arcs.getD k default).to → 0 ≤ y → Ok (Z28 n fl k y) P := by
   intro y hne hy
   unfold Z28
   simp only [Int.toNat_natCast]
   refine Ok.ite.2 ⟨fun hb => ?_, fun hb => hj3 y hne hy⟩
   refine Ok.gd.2 ⟨by constructor <;> omega, Ok.gd.2 ⟨by omega, hj3 (y.tmod ((n.Arcs.getD k default).cap + 1)) hne (Zc3 hy (by omega)).1⟩⟩
  have hskip : WithinAt n.Arcs n.Arcs.length (k + 1) fl := h3.skip hck
  refine Ok.gd.2 ⟨(by omega), Ok.ite.2 ⟨fun hb => ?_, fun hb => ?_⟩⟩
  · exact Ok.gd.2 ⟨(by omega), Ok.some.2 (next _ ⟨k + 1, by simp, by omega, hskip⟩ (by simp only; omega))⟩
  ·
   simp only [Int.toNat_natCast]
   refine Ok.ite.2 ⟨fun he => ?_, fun he => ?_⟩
   · exact Ok.gd.2 ⟨(by omega), Ok.some.2 (next _ ⟨k + 1, by simp, by omega, hskip⟩ (by simp only; omega))⟩
   ·
    have hxk := hl.row _ (Z8c (show k < l.length by omega) 0)
    refine Ok.gd.2 ⟨(by omega), Ok.ite.2 ⟨fun hb => ?_, fun hb => hj2 (l.getD k 0) he (by omega)⟩⟩
    exact Ok.gd.2 ⟨by constructor <;> omega, Ok.gd.2 ⟨by constructor <;> omega, hj2 (-(l.getD k 0 + 1)) he (by omega)⟩⟩
 ·
  refine Ok.some.2 (exit _ ?_)
  unfold Z3p
  refine Ok.some.2 ?_
  rw [show n.Arcs.length = k by omega] at h3 ⊢
  exact h3
end Go.Acq
namespace Go.Acq
open Go
set_option linter.unusedSimpArgs false
def ex (al : List Arc) (f : List Int) (v : Int) : Nat → Int
  | 0 => 0
  | k + 1 => ex al f v k - (if (al.getD k default).fr = v then f.getD k 0 else 0) + (if (al.getD k default).to = v then f.getD k 0 else 0)
def tot (f : List Int) : Nat → Int
  | 0 => 0
  | k + 1 => tot f k + f.getD k 0
def part (al : List Arc) (f : List Int) (j : Int) : Nat → Int
  | 0 => 0
  | k + 1 => part al f j k - (if (al.getD k default).fr < j then f.getD k 0 else 0) + (if (al.getD k default).to < j then f.getD k 0 else 0)
theorem ex_le {al : List Arc} {f : List Int} (v : Int) {n : Nat} (h : ∀ i, i < n → 0 ≤ f.getD i 0) : ∀ k, k ≤ n → -tot f k ≤ ex al f v k ∧ ex al f v k ≤ tot f k
 | 0, _ => by simp [ex, tot]
 | k + 1, hk => by
  have ih := ex_le (al := al) v h k (by omega)
  have := h k hk
  simp only [ex, tot]
  split <;> split <;> omega
theorem Zcw {f : List Int} {n : Nat} (h : ∀ i, i < n → 0 ≤ f.getD i 0) : ∀ j k, j ≤ k → k ≤ n → tot f j ≤ tot f k
  | j, 0, hj, _ => by have : j = 0 := by omega
                      subst this; exact Int.le_refl _
  | j, k + 1, hj, hk => by
    rcases Nat.lt_or_ge j (k + 1) with h1 | h1
    · have := Zcw h j k (by omega) (by omega)
      have := h k hk
      simp only [tot]; omega
    · rw [show j = k + 1 by omega]; exact Int.le_refl _
theorem sumL_tot {f : List Int} : ∀ (al : List Arc) (left : Int) (k : Nat), (Zdg left (al.drop k)).isSome = true → 0 ≤ left → k ≤ al.length → (∀ i, i < al.length → 0 ≤ f.getD i 0 ∧ f.getD i 0 ≤ (al.getD i default).cap) → tot f al.length - tot f k ≤ left := by
 intro al left k
 induction hn : al.length - k generalizing left k with
 | zero =>
  intro _ h0 hk _
  rw [show k = al.length by omega]; omega
 | succ n ih =>
  intro hs h0 hk hf
  have hkl : k < al.length := by omega
  rw [Zdf hkl] at hs
  by_cases hc : (al.getD k default).cap < 0 ∨ left < (al.getD k default).cap
  · rw [if_pos hc] at hs; cases hs
  ·
   rw [if_neg hc] at hs
   have := ih (left - (al.getD k default).cap) (k + 1) (by omega) hs (by omega) (by omega) hf
   have hfk := hf k hkl
   simp only [tot] at this
   omega
def FwithinP (n : Net) (f : List Int) : Prop := Zar n.N n.S n.T n.Arcs = 0 ∧ f.length = n.Arcs.length ∧ ∀ i, i < n.Arcs.length → 0 ≤ f.getD i 0 ∧ f.getD i 0 ≤ (n.Arcs.getD i default).cap
theorem FwithinP.tot {n : Net} {f : List Int} (h : FwithinP n f) : ∀ k, k ≤ n.Arcs.length → 0 ≤ tot f k ∧ tot f k ≤ 4611686018427387904 := by
 intro k hk
 have hz := Z8e h.1
 have h1 := sumL_tot (f := f) n.Arcs 4611686018427387904 0 (by simpa using hz.2.2.2.2.2) (by omega) (by omega) h.2.2
 have h2 := Zcw (fun i hi => (h.2.2 i hi).1) k n.Arcs.length hk (Nat.le_refl _)
 have h3 := Zcw (fun i hi => (h.2.2 i hi).1) 0 k (by omega) hk
 simp only [Acq.tot] at h1 h3
 omega
theorem Zb6 {n : Net} {f : List Int} (hl : lenok n.Arcs.length) : Ok (Z3x n f) (fun b => b = true ↔ FwithinP n f) := by
 unfold Z3x
 refine Ok.bind.2 (Za8 (s_Check n hl) (Ok.ite.2 ⟨fun h => Ok.some.2 ⟨fun h2 => (by cases h2), fun h2 => absurd h2.1 h⟩, fun h1 => Ok.ite.2 ⟨fun h => Ok.some.2 ⟨fun h2 => (by cases h2), fun h2 => absurd h2.2.1 (by omega)⟩, fun h2 => Ok.bind.2 ?_⟩⟩))
 have hz := Z8e (Classical.not_not.1 h1)
 refine Zap (fun x => ∃ k : Nat, x = k ∧ k ≤ n.Arcs.length ∧ ∀ i, i < k → 0 ≤ f.getD i 0 ∧ f.getD i 0 ≤ (n.Arcs.getD i default).cap) (fun x => (n.Arcs.length - x).toNat) ⟨0, rfl, by omega, fun i hi => by omega⟩ (by unfold Z5f; omega) ?_
 rintro x ⟨k, rfl, hk, h3⟩ P next exit
 unfold Z4j
 simp only [Int.toNat_natCast]
 refine Ok.ite.2 ⟨fun hx => ?_, fun hx => ?_⟩
 ·
  refine Ok.gd.2 ⟨(by omega), Ok.gd.2 ⟨(by omega), Ok.ite.2 ⟨fun h => Ok.some.2 (exit _ (Ok.some.2 ⟨fun h2 => (by cases h2), fun h2 => by have := h2.2.2 k (by omega); omega⟩)), fun h4 => Ok.gd.2 ⟨(by omega), Ok.ite.2 ⟨fun h => Ok.some.2 (exit _ (Ok.some.2 ⟨fun h2 => (by cases h2), fun h2 => by have := h2.2.2 k (by omega); omega⟩)), fun h5 => Ok.gd.2 ⟨(by omega), Ok.some.2 (next _ ⟨k + 1, by simp, by omega, fun i hi => ?_⟩ (by omega))⟩⟩⟩⟩⟩⟩
  rcases Nat.lt_or_ge i k with h | h
  · exact h3 i h
  · rw [show i = k by omega]; omega
 ·
  refine Ok.some.2 (exit _ ?_)
  unfold Z5p
  exact Ok.some.2 ⟨fun _ => ⟨Classical.not_not.1 h1, by omega, fun i hi => h3 i (by omega)⟩, fun _ => rfl⟩
theorem Zes {n : Net} {f : List Int} (hl : lenok n.Arcs.length) : Ok (Z54 n f) (fun r => (FwithinP n f ∧ r.2 = 0 ∧ r.1.length = n.N.toNat ∧ ∀ v : Nat, v < n.N.toNat → r.1.getD v 0 = ex n.Arcs f v n.Arcs.length) ∨ (¬ FwithinP n f ∧ r = ([], 20))) := by
 unfold Z54
 refine Ok.bind.2 (Ok.mono (Zb6 hl) fun b hb => Ok.ite.2 ⟨fun h => Ok.some.2 (.inr ⟨fun h2 => (by rw [hb.2 h2] at h; cases h), rfl⟩), fun h => ?_⟩)
 have hw : FwithinP n f := hb.1 (by cases b; exact absurd rfl h; rfl)
 have hz := Z8e hw.1
 obtain ⟨m, hm⟩ : ∃ m : Nat, n.N = m := ⟨n.N.toNat, by omega⟩
 have he : Z7y m n.Arcs := Zdq (by rw [← hm]; exact hz.2.2.2.1)
 have hfl := hw.2.1
 refine Ok.gd.2 ⟨(by omega), Ok.bind.2 ?_⟩
 rw [hm]
 simp only [Int.toNat_natCast]
 refine Zap (fun s => ∃ k : Nat, s.2 = k ∧ k ≤ n.Arcs.length ∧ s.1.length = m ∧ ∀ v : Nat, v < m → s.1.getD v 0 = ex n.Arcs f v k) (fun s => (n.Arcs.length - s.2).toNat) ⟨0, rfl, by omega, List.length_replicate, fun v _ => by rw [Z2u]; rfl⟩ (by unfold Z5f; simp only; omega) ?_
 rintro ⟨xs, x⟩ ⟨k, h1, hk, h3, h4⟩ P next exit
 simp only at h1 h3 h4 next ⊢
 subst h1
 unfold Z4k
 simp only [Int.toNat_natCast]
 refine Ok.ite.2 ⟨fun hx => ?_, fun hx => ?_⟩
 ·
  have hkl : k < n.Arcs.length := by omega
  have e0 := he k hkl false
  have e1 := he k hkl true
  simp only [vtx, Bool.false_eq_true, if_false, if_true] at e0 e1
  obtain ⟨p, hp⟩ : ∃ p : Nat, (n.Arcs.getD k default).fr = p := ⟨(n.Arcs.getD k default).fr.toNat, by omega⟩
  obtain ⟨q, hq⟩ : ∃ q : Nat, (n.Arcs.getD k default).to = q := ⟨(n.Arcs.getD k default).to.toNat, by omega⟩
  have hfk := hw.2.2 k hkl
  have b0 := ex_le (al := n.Arcs) (f := f) (p : Int) (fun i hi => (hw.2.2 i hi).1) k hk
  have b1 := ex_le (al := n.Arcs) (f := f) (q : Int) (fun i hi => (hw.2.2 i hi).1) k hk
  have t0 := hw.tot k hk
  have t1 := hw.tot (k + 1) hkl
  simp only [tot] at t1
  rw [hp] at e0
  rw [hq] at e1
  have v0 := h4 p (by omega)
  have v1 := h4 q (by omega)
  simp only [hp, hq, Int.toNat_natCast, v0, Zei, List.length_set, h3]
  refine Ok.gd.2 ⟨(by omega), Ok.gd.2 ⟨(by omega), Ok.gd.2 ⟨(by omega), Ok.gd.2 ⟨(by omega), Ok.gd.2 ⟨(by omega), Ok.gd.2 ⟨(by omega), Ok.gd.2 ⟨(by omega), Ok.gd.2 ⟨by split <;> constructor <;> omega, Ok.gd.2 ⟨(by omega), Ok.gd.2 ⟨(by omega), Ok.some.2 (next _ ⟨k + 1, by simp, by omega, by simp [h3], fun v hv => ?_⟩ (by simp only; omega))⟩⟩⟩⟩⟩⟩⟩⟩⟩⟩
  simp only [Zei, List.length_set, h3, ex, hp, hq]
  rw [h4 v hv]
  by_cases c1 : p = v
  ·
   subst c1
   by_cases c2 : q = p
   ·
    subst c2
    simp only [true_and, if_true]
    rw [if_pos (by omega)]; simp [show q < m by omega]
   · rw [if_neg (fun h => c2 h.1), if_pos ⟨rfl, by omega⟩, if_pos rfl, if_neg (by omega)]; omega
  ·
   by_cases c2 : q = v
   ·
    subst c2
    rw [if_pos ⟨rfl, by omega⟩, if_neg (fun h => c1 h.1), if_neg (by omega), if_pos rfl, v1]; omega
   · rw [if_neg (fun h => c2 h.1), if_neg (fun h => c1 h.1), if_neg (by omega), if_neg (by omega)]; omega
 ·
  refine Ok.some.2 (exit _ ?_)
  unfold Z5q
  rw [show k = n.Arcs.length by omega] at h4
  exact Ok.some.2 (.inl ⟨hw, rfl, h3, h4⟩)
end Go.Acq
namespace Go.Acq
open Go
set_option linter.unusedSimpArgs false
set_option linter.unusedVariables false
theorem aw22 : Z4a = some true := by decide +kernel
def outK (al : List Arc) (f : List Int) (v : Nat) : Nat → List Int
  | 0 => []
  | k + 1 => outK al f v k ++ (if 0 < f.getD k 0 ∧ (al.getD k default).fr = (v : Int) then [(k : Int)] else [])
def OutIs (n : Net) (m : Nat) (f : List Int) (out : List (List Int)) : Prop := out.length = m ∧ ∀ v, v < m → out.getD v [] = outK n.Arcs f v n.Arcs.length
theorem outK_mem {al : List Arc} {f : List Int} {v : Nat} {x : Int} : ∀ {k : Nat}, x ∈ outK al f v k ↔ ∃ i : Nat, i < k ∧ x = i ∧ 0 < f.getD i 0 ∧ (al.getD i default).fr = (v : Int)
 | 0 => by simp [outK]
 | k + 1 => by
  rw [outK, List.mem_append, outK_mem (k := k)]
  constructor
  ·
   rintro (⟨i, h1, h2⟩ | h)
   · exact ⟨i, by omega, h2⟩
   ·
    split at h
    · rename_i h2; rw [List.mem_singleton] at h; exact ⟨k, by omega, h, h2⟩
    · cases h
  ·
   rintro ⟨i, h1, h2, h3⟩
   rcases Nat.lt_or_ge i k with h | h
   · exact .inl ⟨i, h, h2, h3⟩
   ·
    have e : i = k := by omega
    subst e
    exact .inr (by rw [if_pos h3, h2]; exact .head _)
theorem Zd1 {al : List Arc} {f : List Int} {v : Nat} : ∀ k, (outK al f v k).length ≤ k
 | 0 => Nat.le_refl _
 | k + 1 => by
  have := Zd1 (al := al) (f := f) (v := v) k
  rw [outK, List.length_append]
  split <;> simp <;> omega
theorem OutIs.at {n : Net} {m : Nat} {f : List Int} {out : List (List Int)} (h : OutIs n m f out) {v q : Nat} (hv : v < m) (hq : q < (out.getD v []).length) :
    ∃ k : Nat, (out.getD v []).getD q 0 = k ∧ k < n.Arcs.length ∧ 0 < f.getD k 0 ∧ (n.Arcs.getD k default).fr = (v : Int) := by
  have := Z8c hq 0
  rw [h.2 v hv] at this
  obtain ⟨i, h1, h2, h3, h4⟩ := outK_mem.1 this
  exact ⟨i, by rw [h.2 v hv]; exact h2, h1, h3, h4⟩
theorem OutIs.in {n : Net} {m : Nat} {f : List Int} {out : List (List Int)} (h : OutIs n m f out) {v k : Nat} (hv : v < m) (hk : k < n.Arcs.length) (hf : 0 < f.getD k 0) (he : (n.Arcs.getD k default).fr = (v : Int)) :
    ∃ q, q < (out.getD v []).length ∧ (out.getD v []).getD q 0 = k := by
  have : (k : Int) ∈ out.getD v [] := by rw [h.2 v hv]; exact outK_mem.2 ⟨k, hk, rfl, hf, he⟩
  obtain ⟨q, hq, e⟩ := List.getElem_of_mem this
  exact ⟨q, hq, by rw [List.getD_eq_getElem?_getD, List.getElem?_eq_getElem hq]; exact e⟩
theorem OutIs.len {n : Net} {m : Nat} {f : List Int} {out : List (List Int)} (h : OutIs n m f out) {v : Nat} (hv : v < m) : (out.getD v []).length ≤ n.Arcs.length := by
 rw [h.2 v hv]; exact Zd1 _
def Acyc (n : Net) (f : List Int) : Prop := ∃ ρ : Nat → Nat, ∀ k, k < n.Arcs.length → 0 < f.getD k 0 → ρ (n.Arcs.getD k default).to.toNat < ρ (n.Arcs.getD k default).fr.toNat
def Cyc (n : Net) (f : List Int) (c : List Int) : Prop := 0 < c.length ∧
  (∀ j, j < c.length → ∃ k : Nat, c.getD j 0 = k ∧ k < n.Arcs.length ∧ 0 < f.getD k 0 ∧ (n.Arcs.getD k default).to = (n.Arcs.getD (c.getD ((j + 1) % c.length) 0).toNat default).fr) ∧
  ∀ i j, i < c.length → j < c.length → (n.Arcs.getD (c.getD i 0).toNat default).fr = (n.Arcs.getD (c.getD j 0).toNat default).fr → i = j
theorem Cyc.not {n : Net} {f c : List Int} (h : Cyc n f c) : ¬ Acyc n f := by
 rintro ⟨ρ, hρ⟩
 obtain ⟨h0, h1, -⟩ := h
 let g : Nat → Nat := fun j => ρ (n.Arcs.getD (c.getD j 0).toNat default).fr.toNat
 have hs : ∀ j, j < c.length → g ((j + 1) % c.length) < g j := by
  intro j hj
  obtain ⟨k, e1, e2, e3, e4⟩ := h1 j hj
  have := hρ k e2 e3
  rw [e4] at this
  show ρ _ < ρ (n.Arcs.getD (c.getD j 0).toNat default).fr.toNat
  rw [e1, Int.toNat_natCast]
  exact this
 have key : ∀ j, j < c.length → g j + j ≤ g 0 := by
  intro j
  induction j with
  | zero => intro _; omega
  | succ j ih =>
   intro hj
   have h2 := ih (by omega)
   have h3 := hs j (by omega)
   rw [Nat.mod_eq_of_lt hj] at h3
   omega
 have h2 := key (c.length - 1) (by omega)
 have h3 := hs (c.length - 1) (by omega)
 rw [show c.length - 1 + 1 = c.length by omega, Nat.mod_self] at h3
 omega
theorem s_begin {n : Net} {m : Nat} {f : List Int} (hm : n.N = m) (hm2 : m ≤ 4096) (he : Z7y m n.Arcs) (hl : n.Arcs.length ≤ 16384) (hf : f.length = n.Arcs.length) :
    Ok (Z4n n f) (fun s => ∃ out, s = CyclesSearch.mk n out (List.replicate m 0) (List.replicate m false) (List.replicate m false) [] ∧ OutIs n m f out) := by
  unfold Z4n
  rw [hm]
  refine Ok.gd.2 ⟨(by omega), Ok.gd.2 ⟨(by omega), Ok.gd.2 ⟨(by omega), Ok.gd.2 ⟨(by omega), Ok.bind.2 ?_⟩⟩⟩⟩
  simp only [Int.toNat_natCast]
  refine Zap (fun s => ∃ k : Nat, s.2 = k ∧ k ≤ n.Arcs.length ∧ s.1.length = m ∧ ∀ v, v < m → s.1.getD v [] = outK n.Arcs f v k) (fun s => (n.Arcs.length - s.2).toNat) ⟨0, rfl, by omega, List.length_replicate, fun v _ => by rw [Z2u]; rfl⟩ (by unfold Z5f; simp only; omega) ?_
  rintro ⟨xs, x⟩ ⟨k, h1, hk, h3, h4⟩ P next exit
  simp only at h1 h3 h4 next ⊢
  subst h1
  unfold Z4c
  simp only [Int.toNat_natCast]
  refine Ok.ite.2 ⟨fun hx => ?_, fun hx => ?_⟩
  · have hkl : k < n.Arcs.length := by omega
    have e0 := he k hkl false
    simp only [vtx, Bool.false_eq_true, if_false] at e0
    obtain ⟨p, hp⟩ : ∃ p : Nat, (n.Arcs.getD k default).fr = p := ⟨(n.Arcs.getD k default).fr.toNat, by omega⟩
    rw [hp] at e0
    refine Ok.gd.2 ⟨(by constructor <;> omega), Ok.gd.2 ⟨(by constructor <;> omega), Ok.ite.2 ⟨fun hp0 => ?_, fun hp0 => Ok.gd.2 ⟨(by constructor <;> omega), Ok.some.2 (next _ ⟨k + 1, by simp, by omega, h3, fun v hv => ?_⟩ (by simp only; omega))⟩⟩⟩⟩
    · simp only [hp, Int.toNat_natCast]
      have h5 := h4 p (by omega)
      have h6 := Zd1 (al := n.Arcs) (f := f) (v := p) k
      refine Ok.gd.2 ⟨(by constructor <;> omega), Ok.gd.2 ⟨?_, Ok.gd.2 ⟨(by constructor <;> omega), Ok.some.2 (next _ ⟨k + 1, by simp, by omega, by simp [h3], fun v hv => ?_⟩ (by simp only; omega))⟩⟩⟩
      · rw [List.length_append, h5]; simp only [List.length_singleton]; constructor <;> omega
      · rw [Zei, h3, h5, outK]
        by_cases e : p = v
        · subst e; rw [if_pos ⟨rfl, by omega⟩, if_pos ⟨hp0, hp⟩]
        · rw [if_neg (fun h => e h.1), if_neg (fun h => by have := h.2; rw [hp] at this; omega), List.append_nil]; exact h4 v hv
    · rw [outK, if_neg (fun h => hp0 h.1), List.append_nil]; exact h4 v hv
  · refine Ok.some.2 (exit _ ?_)
    unfold Z56
    simp only [hm, Int.toNat_natCast]
    exact Ok.some.2 ⟨xs, rfl, h3, fun v hv => by rw [h4 v hv, show k = n.Arcs.length by omega]⟩
end Go.Acq
namespace Go.Acq
open Go
set_option linter.unusedSimpArgs false
set_option linter.unusedVariables false
section dfs
variable {n : Net} {m : Nat} {f : List Int} {out : List (List Int)}
def past (n : Net) (out : List (List Int)) (dn : List Bool) (u q : Nat) : Prop := ∀ j, j < q → dn.getD (n.Arcs.getD ((out.getD u []).getD j 0).toNat default).to.toNat false = true
inductive Chain (n : Net) (f : List Int) (out : List (List Int)) (at_ : List Int) (dn : List Bool) : List Nat → List Nat → Prop
  | root (r : Nat) : Chain n f out at_ dn [r] []
  | step {v u e : Nat} {ps es : List Nat} (h1 : e < n.Arcs.length) (h2 : 0 < f.getD e 0) (h3 : (n.Arcs.getD e default).fr = (u : Int)) (h4 : (n.Arcs.getD e default).to = (v : Int))
      (h5 : ∃ q : Nat, at_.getD u 0 = ((q + 1 : Nat) : Int) ∧ (out.getD u []).getD q 0 = (e : Int) ∧ past n out dn u q) (h6 : Chain n f out at_ dn (u :: ps) es) : Chain n f out at_ dn (v :: u :: ps) (e :: es)
theorem past.mono {dn dn' : List Bool} {u q : Nat} (h : past n out dn u q) (hd : ∀ x, dn.getD x false = true → dn'.getD x false = true) : past n out dn' u q := fun j hj => hd _ (h j hj)
theorem Chain.mono {at_ at' : List Int} {dn dn' : List Bool} {pv es : List Nat} (h : Chain n f out at_ dn pv es) (hd : ∀ x, dn.getD x false = true → dn'.getD x false = true) (ha : ∀ x, x ∈ pv.tail → at'.getD x 0 = at_.getD x 0) : Chain n f out at' dn' pv es := by
 induction h with
 | root r => exact .root r
 | step h1 h2 h3 h4 h5 h6 ih =>
  obtain ⟨q, q1, q2, q3⟩ := h5
  refine .step h1 h2 h3 h4 ⟨q, by rw [ha _ (.head _)]; exact q1, q2, q3.mono hd⟩ (ih fun x hx => ha x ?_)
  exact .tail _ hx
theorem Chain.len {at_ : List Int} {dn : List Bool} {pv es : List Nat} (h : Chain n f out at_ dn pv es) : pv.length = es.length + 1 := by
 induction h with
 | root r => rfl
 | step _ _ _ _ _ _ ih => simp only [List.length_cons] at ih ⊢; omega
theorem Chain.at {at_ : List Int} {dn : List Bool} {pv es : List Nat} (h : Chain n f out at_ dn pv es) : ∀ i, i < es.length → es.getD i 0 < n.Arcs.length ∧ 0 < f.getD (es.getD i 0) 0 ∧ (n.Arcs.getD (es.getD i 0) default).fr = (pv.getD (i + 1) 0 : Int) ∧ (n.Arcs.getD (es.getD i 0) default).to = (pv.getD i 0 : Int) := by
 induction h with
 | root r => intro i hi; simp at hi
 | step h1 h2 h3 h4 h5 h6 ih =>
  intro i hi
  cases i with
  | zero => exact ⟨h1, h2, h3, h4⟩
  | succ i =>
   have := ih i (by simpa using hi)
   simpa using this
structure DI (n : Net) (m : Nat) (f : List Int) (out : List (List Int)) (at_ : List Int) (dn : List Bool) : Prop where
  la : at_.length = m
  ld : dn.length = m
  lo : ∀ u, u < m → 0 ≤ at_.getD u 0 ∧ at_.getD u 0 ≤ ((out.getD u []).length : Int)
  rank : ∃ (ρ : Nat → Nat) (c : Nat), ∀ u, u < m → dn.getD u false = true → ρ u < c ∧ ∀ k, k < n.Arcs.length → 0 < f.getD k 0 → (n.Arcs.getD k default).fr = (u : Int) → dn.getD (n.Arcs.getD k default).to.toNat false = true ∧ ρ (n.Arcs.getD k default).to.toNat < ρ u
structure WI (n : Net) (m : Nat) (f : List Int) (out : List (List Int)) (r v : Nat) (pv es : List Nat) (at_ : List Int) (dn on : List Bool) (way : List Int) : Prop where
  di : DI n m f out at_ dn
  ch : Chain n f out at_ dn (v :: pv) es
  nd : (v :: pv).Nodup
  lt : ∀ u, u ∈ v :: pv → u < m
  way : way = es.reverse.map fun e : Nat => (e : Int)
  lon : on.length = m
  on : ∀ u, u < m → (on.getD u false = true ↔ u ∈ v :: pv)
  open_ : ∀ u, u ∈ v :: pv → dn.getD u false = false
  pst : past n out dn v (at_.getD v 0).toNat
  fresh : ∀ u, u < m → dn.getD u false = false → u ∉ v :: pv → at_.getD u 0 = 0
  root : ∃ pre, v :: pv = pre ++ [r]
structure EI (n : Net) (m : Nat) (f : List Int) (out : List (List Int)) (at_ : List Int) (dn on : List Bool) (way : List Int) : Prop where
  di : DI n m f out at_ dn
  way : way = []
  lon : on.length = m
  on : ∀ u, u < m → on.getD u false = false
  fresh : ∀ u, u < m → dn.getD u false = false → at_.getD u 0 = 0
theorem WI.begin {at_ : List Int} {dn on : List Bool} {way : List Int} {v : Nat} (h : EI n m f out at_ dn on way) (hv : v < m) (hd : dn.getD v false = false) : WI n m f out v v [] [] at_ dn (on.set v true) way := by
 refine ⟨h.di, .root v, by simp, fun u hu => ?_, h.way, by rw [List.length_set]; exact h.lon, fun u hu => ?_, fun u hu => ?_, fun j hj => ?_, fun u hu hdu _ => h.fresh u hu hdu, [], rfl⟩
 · rw [List.mem_singleton] at hu; subst hu; exact hv
 ·
  rw [Zei, h.lon, List.mem_singleton]
  by_cases e : v = u
  · rw [if_pos ⟨e, hv⟩]; exact ⟨fun _ => e.symm, fun _ => rfl⟩
  · rw [if_neg (fun h => e h.1), h.on u hu]; exact ⟨fun h => (by cases h), fun h => absurd h.symm e⟩
 · rw [List.mem_singleton] at hu; subst hu; exact hd
 · rw [h.fresh v hv hd] at hj; simp at hj
theorem WI.skip {r v q : Nat} {pv es : List Nat} {at_ : List Int} {dn on : List Bool} {way : List Int} (h : WI n m f out r v pv es at_ dn on way) (hq : at_.getD v 0 = (q : Int)) (hl : q < (out.getD v []).length)
    (hd : dn.getD (n.Arcs.getD ((out.getD v []).getD q 0).toNat default).to.toNat false = true) : WI n m f out r v pv es (at_.set v ((q : Int) + 1)) dn on way := by
  have hv := h.lt v (.head _)
  have hne : ∀ u, u ∈ pv → v ≠ u := fun u hu e => by subst e; exact (List.nodup_cons.1 h.nd).1 hu
  refine ⟨⟨by rw [List.length_set]; exact h.di.la, h.di.ld, fun u hu => ?_, h.di.rank⟩, h.ch.mono (fun _ h => h) (fun x hx => Z4e (hne x hx)), h.nd, h.lt, h.way, h.lon, h.on, h.open_, ?_, fun u hu hdu hup => ?_, h.root⟩
  · have := h.di.lo u hu
    rw [Zei, h.di.la]
    split
    · rename_i e; rw [← e.1]; omega
    · exact this
  · rw [Z6n (by rw [h.di.la]; exact hv)]
    intro j hj
    rcases Nat.lt_or_ge j q with h1 | h1
    · exact h.pst j (by rw [hq]; omega)
    · rw [show j = q by omega]; exact hd
  · have h1 : v ≠ u := fun e => hup (by rw [← e]; exact .head _)
    rw [Z4e h1]; exact h.fresh u hu hdu hup
theorem WI.push {r v q w k : Nat} {pv es : List Nat} {at_ : List Int} {dn on : List Bool} {way : List Int} (h : WI n m f out r v pv es at_ dn on way) (hq : at_.getD v 0 = (q : Int)) (hl : q < (out.getD v []).length)
    (hk : (out.getD v []).getD q 0 = (k : Int)) (hkl : k < n.Arcs.length) (hf : 0 < f.getD k 0) (hfr : (n.Arcs.getD k default).fr = (v : Int)) (hto : (n.Arcs.getD k default).to = (w : Int)) (hw : w < m) (hon : on.getD w false = false) (hd : dn.getD w false = false) :
    WI n m f out r w (v :: pv) (k :: es) (at_.set v ((q : Int) + 1)) dn (on.set w true) (way ++ [(k : Int)]) := by
  have hv := h.lt v (.head _)
  have hwn : w ∉ v :: pv := fun hm => by have := (h.on w hw).2 hm; rw [hon] at this; cases this
  have hvw : v ≠ w := fun e => hwn (e ▸ .head _)
  have hne : ∀ u, u ∈ pv → v ≠ u := fun u hu e => by subst e; exact (List.nodup_cons.1 h.nd).1 hu
  have hw0 := h.fresh w hw hd hwn
  refine ⟨⟨by rw [List.length_set]; exact h.di.la, h.di.ld, fun u hu => ?_, h.di.rank⟩, .step hkl hf hfr hto ⟨q, by rw [Z6n (by rw [h.di.la]; exact hv)]; omega, hk, fun j hj => h.pst j (by rw [hq]; omega)⟩ (h.ch.mono (fun _ h => h) (fun x hx => Z4e (hne x hx))), List.nodup_cons.2 ⟨hwn, h.nd⟩, fun u hu => ?_, ?_, by rw [List.length_set]; exact h.lon, fun u hu => ?_, fun u hu => ?_, ?_, fun u hu hdu hup => ?_, (by obtain ⟨pre, e⟩ := h.root; exact ⟨w :: pre, by rw [e]; rfl⟩)⟩
  · have := h.di.lo u hu
    rw [Zei, h.di.la]
    split
    · rename_i e; rw [← e.1]; omega
    · exact this
  · rcases List.mem_cons.1 hu with rfl | hu
    · exact hw
    · exact h.lt u hu
  · rw [h.way, List.reverse_cons, List.map_append]; rfl
  · rw [Zei, h.lon]
    by_cases e : w = u
    · rw [if_pos ⟨e, hw⟩]; exact ⟨fun _ => e ▸ .head _, fun _ => rfl⟩
    · rw [if_neg (fun h => e h.1), h.on u hu]
      exact ⟨fun h => .tail _ h, fun h => by rcases List.mem_cons.1 h with h | h; (exact absurd h.symm e); exact h⟩
  · rcases List.mem_cons.1 hu with rfl | hu
    · exact hd
    · exact h.open_ u hu
  · rw [Z4e hvw, hw0]; intro j hj; simp at hj
  · have h1 : v ≠ u := fun e => hup (e ▸ .tail _ (.head _))
    rw [Z4e h1]; exact h.fresh u hu hdu (fun hm => hup (.tail _ hm))
theorem WI.fin {r v : Nat} {pv es : List Nat} {at_ : List Int} {dn on : List Bool} {way : List Int} (ho : OutIs n m f out) (h : WI n m f out r v pv es at_ dn on way) (hq : at_.getD v 0 = ((out.getD v []).length : Int)) :
    DI n m f out at_ (dn.set v true) := by
  have hv := h.lt v (.head _)
  have hdv := h.open_ v (.head _)
  obtain ⟨ρ, c, hρ⟩ := h.di.rank
  refine ⟨h.di.la, by rw [List.length_set]; exact h.di.ld, h.di.lo, fun x => if x = v then c else ρ x, c + 1, fun u hu hd => ?_⟩
  rw [Zei, h.di.ld] at hd
  by_cases e : v = u
  · subst e
    simp only [if_true]
    refine ⟨by omega, fun k hk hf hfr => ?_⟩
    obtain ⟨q, hq1, hq2⟩ := ho.in hv hk hf hfr
    have h1 := h.pst q (by rw [hq]; omega)
    rw [hq2, Int.toNat_natCast] at h1
    have h2 : (n.Arcs.getD k default).to.toNat ≠ v := fun e => by rw [e, hdv] at h1; cases h1
    have hlt : (n.Arcs.getD k default).to.toNat < m := by
      rcases Nat.lt_or_ge (n.Arcs.getD k default).to.toNat m with h3 | h3
      · exact h3
      · rw [List.getD_eq_getElem?_getD, List.getElem?_eq_none (by rw [h.di.ld]; exact h3)] at h1; cases h1
    rw [if_neg h2]
    exact ⟨by rw [Z4e (Ne.symm h2)]; exact h1, (hρ _ hlt h1).1⟩
  · rw [if_neg (fun h => e h.1)] at hd
    obtain ⟨h1, h2⟩ := hρ u hu hd
    simp only [if_neg (show ¬ u = v from fun h => e h.symm)]
    refine ⟨by omega, fun k hk hf hfr => ?_⟩
    obtain ⟨h3, h4⟩ := h2 k hk hf hfr
    have h5 : (n.Arcs.getD k default).to.toNat ≠ v := fun e => by rw [e, hdv] at h3; cases h3
    rw [if_neg h5]
    exact ⟨by rw [Z4e (Ne.symm h5)]; exact h3, h4⟩
theorem Zgr {dn : List Bool} {v : Nat} : ∀ x, dn.getD x false = true → (dn.set v true).getD x false = true := by
 intro x hx
 rw [Zei]; split
 · rfl
 · exact hx
theorem WI.pop {r v u e : Nat} {ps es : List Nat} {at_ : List Int} {dn on : List Bool} {way : List Int} (ho : OutIs n m f out) (h : WI n m f out r v (u :: ps) (e :: es) at_ dn on way) (hq : at_.getD v 0 = ((out.getD v []).length : Int)) :
    WI n m f out r u ps es at_ (dn.set v true) (on.set v false) (es.reverse.map fun e : Nat => (e : Int)) ∧ (n.Arcs.getD e default).fr = (u : Int) ∧ e < n.Arcs.length := by
  have hv := h.lt v (.head _)
  have hfin := h.fin ho hq
  have hnd := List.nodup_cons.1 h.nd
  cases h.ch with
  | step h1 h2 h3 h4 h5 h6 =>
  obtain ⟨q, q1, q2, q3⟩ := h5
  refine ⟨⟨hfin, h6.mono Zgr (fun _ _ => rfl), hnd.2, fun x hx => h.lt x (.tail _ hx), rfl, by rw [List.length_set]; exact h.lon, fun x hx => ?_, fun x hx => ?_, ?_, fun x hx hdx hup => ?_, ?_⟩, h3, h1⟩
  · rw [Zei, h.lon]
    by_cases e : v = x
    · subst e; rw [if_pos ⟨rfl, hv⟩]; exact ⟨fun h => (by cases h), fun hm => absurd hm hnd.1⟩
    · rw [if_neg (fun h => e h.1), h.on x hx]
      exact ⟨fun h => by rcases List.mem_cons.1 h with h | h; (exact absurd h.symm e); exact h, fun h => .tail _ h⟩
  · have h1 : v ≠ x := fun e => hnd.1 (by rw [e]; exact hx)
    rw [Z4e h1]; exact h.open_ x (.tail _ hx)
  · rw [q1, Int.toNat_natCast]
    intro j hj
    rcases Nat.lt_or_ge j q with h7 | h7
    · exact Zgr _ (q3 j h7)
    · rw [show j = q by omega, q2, Int.toNat_natCast, h4, Int.toNat_natCast]
      exact Z6n (by rw [h.di.ld]; exact hv)
  · have hxv : v ≠ x := fun e => by subst e; rw [Z6n (by rw [h.di.ld]; exact hv)] at hdx; cases hdx
    rw [Z4e hxv] at hdx
    exact h.fresh x hx hdx (fun hm => by rcases List.mem_cons.1 hm with h | h; (exact hxv h.symm); exact hup h)
  · obtain ⟨pre, e⟩ := h.root
    cases pre with
    | nil => simp at e
    | cons x pre => exact ⟨pre, by simpa using (List.cons.inj e).2⟩
theorem WI.last {r v : Nat} {at_ : List Int} {dn on : List Bool} {way : List Int} (ho : OutIs n m f out) (h : WI n m f out r v [] [] at_ dn on way) (hq : at_.getD v 0 = ((out.getD v []).length : Int)) :
    EI n m f out at_ (dn.set v true) (on.set v false) way ∧ (dn.set v true).getD r false = true := by
  have hv := h.lt v (.head _)
  have hrv : r = v := by
    obtain ⟨pre, e⟩ := h.root
    cases pre with
    | nil => simpa using e.symm
    | cons x pre => simp at e
  refine ⟨⟨h.fin ho hq, by rw [h.way]; rfl, by rw [List.length_set]; exact h.lon, fun u hu => ?_, fun u hu hd => ?_⟩, by rw [hrv]; exact Z6n (by rw [h.di.ld]; exact hv)⟩
  · rw [Zei, h.lon]
    by_cases e : v = u
    · rw [if_pos ⟨e, hv⟩]
    · rw [if_neg (fun h => e h.1), Bool.eq_false_iff]
      intro h1
      have := (h.on u hu).1 h1
      rw [List.mem_singleton] at this; exact e this.symm
  · have hxv : v ≠ u := fun e => by subst e; rw [Z6n (by rw [h.di.ld]; exact hv)] at hd; cases hd
    rw [Z4e hxv] at hd
    exact h.fresh u hu hd (by rw [List.mem_singleton]; exact fun e => hxv e.symm)
end dfs
end Go.Acq
namespace Go.Acq
open Go
set_option linter.unusedSimpArgs false
set_option linter.unusedVariables false
theorem appR {α : Type} {xs ys : List α} {i : Nat} {d : α} (h : xs.length ≤ i) : (xs ++ ys).getD i d = ys.getD (i - xs.length) d := by
 rw [List.getD_eq_getElem?_getD, List.getElem?_append_right h, ← List.getD_eq_getElem?_getD]
theorem appL {α : Type} {xs ys : List α} {i : Nat} {d : α} (h : i < xs.length) : (xs ++ ys).getD i d = xs.getD i d := by
 rw [List.getD_eq_getElem?_getD, List.getElem?_append_left h, ← List.getD_eq_getElem?_getD]
def smI : List Int → Int
  | [] => 0
  | x :: xs => x + smI xs
def cT : List Bool → Nat
  | [] => 0
  | b :: bs => (if b = true then 1 else 0) + cT bs
theorem Zee : ∀ {xs : List Int} {i : Nat} {y : Int}, i < xs.length → smI (xs.set i y) = smI xs - xs.getD i 0 + y
 | [], i, y, h => by simp at h
 | x :: xs, 0, y, _ => by simp [smI]; omega
 | x :: xs, i + 1, y, h => by
  have := Zee (xs := xs) (i := i) (y := y) (by simpa using h)
  simp only [List.set_cons_succ, smI, this, List.getD_cons_succ]; omega
theorem smI_le {B : Nat} : ∀ {xs : List Int}, (∀ i, i < xs.length → 0 ≤ xs.getD i 0 ∧ xs.getD i 0 ≤ B) → 0 ≤ smI xs ∧ smI xs ≤ (xs.length * B : Nat)
 | [], _ => by simp [smI]
 | x :: xs, h => by
  have h1 := smI_le (B := B) (xs := xs) (fun i hi => by have := h (i + 1) (by simpa using hi); simpa using this)
  have h2 := h 0 (by simp)
  simp only [List.getD_cons_zero] at h2
  simp only [smI, List.length_cons, Nat.add_mul, Nat.one_mul]
  omega
theorem cT_le : ∀ bs : List Bool, cT bs ≤ bs.length
 | [] => Nat.le_refl _
 | b :: bs => by have := cT_le bs; simp only [cT, List.length_cons]; split <;> omega
theorem cT_set : ∀ {bs : List Bool} {i : Nat}, i < bs.length → bs.getD i false = false → cT (bs.set i true) = cT bs + 1
 | [], i, h, _ => by simp at h
 | b :: bs, 0, _, h => by simp only [List.getD_cons_zero] at h; subst h; simp [cT]; omega
 | b :: bs, i + 1, h, hb => by
  have := cT_set (bs := bs) (i := i) (by simpa using h) (by simpa using hb)
  simp only [List.set_cons_succ, cT, this]; omega
section
variable {n : Net} {m : Nat} {f : List Int} {out : List (List Int)}
theorem s_closes {way at_ : List Int} {dn on : List Bool} {w : Int} {k : Int} (hl : way.length ≤ 4096) (hin : ∀ j, j < (way ++ [k]).length → ∃ a : Nat, (way ++ [k]).getD j 0 = a ∧ a < n.Arcs.length)
    (hex : ∃ j, j < (way ++ [k]).length ∧ (n.Arcs.getD ((way ++ [k]).getD j 0).toNat default).fr = w) :
    Ok (Z2q (CyclesSearch.mk n out at_ dn on way) w k) (fun c => ∃ i, i < (way ++ [k]).length ∧ c = (way ++ [k]).drop i ∧ (n.Arcs.getD ((way ++ [k]).getD i 0).toNat default).fr = w) := by
  have hl2 : (way ++ [k]).length = way.length + 1 := by simp
  unfold Z2q
  have hc : Z3u way = some way := by
    refine Zeh ?_
    unfold Z3u
    exact Ok.gd.2 ⟨by constructor <;> omega, Ok.some.2 rfl⟩
  refine Ok.bind.2 (Za8 hc (Ok.gd.2 ⟨by rw [hl2]; constructor <;> omega, Ok.bind.2 ?_⟩))
  generalize hws : way ++ [k] = ws at *
  unfold Z1a
  refine Ok.bind.2 (Zap (fun x => ∃ i : Nat, x = i ∧ i ≤ ws.length ∧ ∀ j, j < i → (n.Arcs.getD (ws.getD j 0).toNat default).fr ≠ w) (fun x => (ws.length - x).toNat) ⟨0, rfl, by omega, fun j hj => by omega⟩ (by unfold Z5f; omega) ?_)
  rintro x ⟨i, rfl, hi, hno⟩ P next exit
  unfold Z0v
  simp only [Int.toNat_natCast]
  refine Ok.ite.2 ⟨fun hx => ?_, fun hx => ?_⟩
  · obtain ⟨a, ha, hal⟩ := hin i (by omega)
    refine Ok.gd.2 ⟨(by constructor <;> omega), Ok.bind.2 ?_⟩
    unfold Z31
    rw [ha]
    refine Ok.gd.2 ⟨by show inb (a : Int) n.Arcs.length; constructor <;> omega, Ok.some.2 ?_⟩
    simp only [Int.toNat_natCast]
    refine Ok.ite.2 ⟨fun h => Ok.some.2 (exit _ ?_), fun h => Ok.gd.2 ⟨(by constructor <;> omega), Ok.some.2 (next _ ⟨i + 1, by simp, by omega, fun j hj => ?_⟩ (by omega))⟩⟩
    · have h := of_decide_eq_true h
      refine Ok.some.2 (Ok.gd.2 ⟨(by constructor <;> omega), Ok.some.2 ?_⟩)
      rw [Int.toNat_natCast]
      exact ⟨i, by omega, rfl, by rw [ha, Int.toNat_natCast]; exact h⟩
    · rcases Nat.lt_or_ge j i with h1 | h1
      · exact hno j h1
      · rw [show j = i by omega, ha, Int.toNat_natCast]; exact fun e => h (decide_eq_true e)
  · obtain ⟨j, hj, e⟩ := hex
    exact absurd e (hno j (by omega))
theorem WI.cyc {r v k w i : Nat} {pv es : List Nat} {at_ : List Int} {dn on : List Bool} {way : List Int} (h : WI n m f out r v pv es at_ dn on way) (hkl : k < n.Arcs.length) (hf : 0 < f.getD k 0) (hfr : (n.Arcs.getD k default).fr = (v : Int)) (hto : (n.Arcs.getD k default).to = (w : Int)) (hw : w < m) (hon : on.getD w false = true) :
    (∀ j, j < (way ++ [(k : Int)]).length → ∃ a : Nat, (way ++ [(k : Int)]).getD j 0 = a ∧ a < n.Arcs.length) ∧
    (∃ j, j < (way ++ [(k : Int)]).length ∧ (n.Arcs.getD ((way ++ [(k : Int)]).getD j 0).toNat default).fr = (w : Int)) ∧
    (i < (way ++ [(k : Int)]).length → (n.Arcs.getD ((way ++ [(k : Int)]).getD i 0).toNat default).fr = (w : Int) → Cyc n f ((way ++ [(k : Int)]).drop i)) := by
  have hlen := h.ch.len
  simp only [List.length_cons] at hlen
  have hat := h.ch.at
  have hwl : way.length = es.length := by rw [h.way]; simp
  have hwsl : (way ++ [(k : Int)]).length = es.length + 1 := by simp [hwl]
  have key : ∀ j, j < es.length + 1 → ∃ a : Nat, (way ++ [(k : Int)]).getD j 0 = a ∧ a < n.Arcs.length ∧ 0 < f.getD a 0 ∧ (n.Arcs.getD a default).fr = ((v :: pv).getD (es.length - j) 0 : Int) ∧ (n.Arcs.getD a default).to = (if j = es.length then (w : Int) else ((v :: pv).getD (es.length - (j + 1)) 0 : Int)) := by
    intro j hj
    by_cases e : j = es.length
    · refine ⟨k, by rw [appR (by omega), hwl, e]; simp, hkl, hf, ?_, by rw [if_pos e]; exact hto⟩
      rw [e, Nat.sub_self]; exact hfr
    · obtain ⟨h1, h2, h3, h4⟩ := hat (es.length - (j + 1)) (by omega)
      refine ⟨es.getD (es.length - (j + 1)) 0, ?_, h1, h2, ?_, by rw [if_neg e]; exact h4⟩
      · rw [appL (by omega), h.way, List.getD_eq_getElem?_getD, List.getElem?_map, List.getElem?_reverse (by omega), List.getD_eq_getElem?_getD, show es.length - 1 - j = es.length - (j + 1) by omega, List.getElem?_eq_getElem (by omega)]
        rfl
      · rw [h3, show es.length - (j + 1) + 1 = es.length - j by omega]
  have hinj : ∀ a b, a < es.length + 1 → b < es.length + 1 → (v :: pv).getD a 0 = (v :: pv).getD b 0 → a = b := by
    intro a b ha hb e
    have hl : (v :: pv).length = es.length + 1 := by simp [hlen]
    rw [List.getD_eq_getElem?_getD, List.getD_eq_getElem?_getD, List.getElem?_eq_getElem (by omega), List.getElem?_eq_getElem (by omega)] at e
    exact (List.getElem_inj h.nd).1 e
  refine ⟨fun j hj => ?_, ?_, fun hi hfi => ?_⟩
  · obtain ⟨a, h1, h2, -⟩ := key j (by omega)
    exact ⟨a, h1, h2⟩
  · obtain ⟨p, hp, e⟩ := List.getElem_of_mem ((h.on w hw).1 hon)
    have hp2 : p < es.length + 1 := by simp at hp; omega
    refine ⟨es.length - p, by omega, ?_⟩
    obtain ⟨a, h1, h2, h3, h4, -⟩ := key (es.length - p) (by omega)
    rw [h1, Int.toNat_natCast, h4, show es.length - (es.length - p) = p by omega, List.getD_eq_getElem?_getD, List.getElem?_eq_getElem hp, e]; rfl
  · have hdl : ((way ++ [(k : Int)]).drop i).length = es.length + 1 - i := by rw [List.length_drop, hwsl]
    have hdg : ∀ j, ((way ++ [(k : Int)]).drop i).getD j 0 = (way ++ [(k : Int)]).getD (i + j) 0 := fun j => by
      rw [List.getD_eq_getElem?_getD, List.getElem?_drop, ← List.getD_eq_getElem?_getD]
    refine ⟨by omega, fun j hj => ?_, fun a b ha hb e => ?_⟩
    · rw [hdl] at hj ⊢
      obtain ⟨a, h1, h2, h3, h4, h5⟩ := key (i + j) (by omega)
      refine ⟨a, by rw [hdg]; exact h1, h2, h3, ?_⟩
      rw [h5, hdg]
      by_cases hj2 : j + 1 = es.length + 1 - i
      · rw [if_pos (by omega), hj2, Nat.mod_self, Nat.add_zero]; exact hfi.symm
      · rw [if_neg (by omega), Nat.mod_eq_of_lt (by omega)]
        obtain ⟨b, g1, g2, g3, g4, -⟩ := key (i + (j + 1)) (by omega)
        rw [g1, Int.toNat_natCast, g4]
        congr 2
    · rw [hdl] at ha hb
      rw [hdg, hdg] at e
      obtain ⟨x, h1, h2, h3, h4, -⟩ := key (i + a) (by omega)
      obtain ⟨y, g1, g2, g3, g4, -⟩ := key (i + b) (by omega)
      rw [h1, g1, Int.toNat_natCast, Int.toNat_natCast, h4, g4] at e
      have := hinj _ _ (by omega) (by omega) (Int.natCast_inj.1 e)
      omega
end
end Go.Acq
namespace Go.Acq
open Go
set_option linter.unusedSimpArgs false
set_option linter.unusedVariables false
section
variable {n : Net} {m : Nat} {f : List Int} {out : List (List Int)}
theorem DI.sm {at_ : List Int} {dn : List Bool} (ho : OutIs n m f out) (h : DI n m f out at_ dn) : 0 ≤ smI at_ ∧ smI at_ ≤ ((m * n.Arcs.length : Nat) : Int) := by
 have := smI_le (B := n.Arcs.length) (xs := at_) (fun i hi => by
  rw [h.la] at hi
  have h1 := h.lo i hi
  have h2 := ho.len hi
  omega)
 rw [h.la] at this
 exact this
theorem s_inner {A : List Int} {D O : List Bool} {W : List Int} (hm2 : m ≤ 4096) (hl : n.Arcs.length ≤ 16384) (he : Z7y m n.Arcs) (ho : OutIs n m f out) {r v : Nat} {pv es : List Nat} {at0 : List Int} {dn on : List Bool} {way : List Int} (h : WI n m f out r v pv es at0 dn on way) :
    Ok (Z2h (fun s => Z25 (CyclesSearch.mk n out A D O W) (v : Int) dn on way s) Z5f at0) (fun o => match o with
      | .inl (c, _) => Cyc n f c
      | .inr (.inl (w, at', dn', on', way')) => ∃ w' k : Nat, w = w' ∧ dn' = dn ∧ WI n m f out r w' (v :: pv) (k :: es) at' dn on' way' ∧ smI at0 < smI at'
      | .inr (.inr at') => WI n m f out r v pv es at' dn on way ∧ at'.getD v 0 = ((out.getD v []).length : Int) ∧ smI at0 ≤ smI at') := by
  have hv := h.lt v (.head _)
  have hlo := ho.len hv
  have h1 := h.ch.len
  have hwl : way.length = es.length := by rw [h.way]; simp
  have hpl : es.length + 1 ≤ m := by
    have := List.Nodup.length_le_of_subset h.nd (l₂ := List.range m) (fun u hu => List.mem_range.2 (h.lt u hu))
    rw [h1, List.length_range] at this; exact this
  refine Zap (fun a => WI n m f out r v pv es a dn on way ∧ smI at0 ≤ smI a) (fun a => ((out.getD v []).length - a.getD v 0).toNat) ⟨h, Int.le_refl _⟩ (by
    have := (h.di.lo v hv).1
    unfold Z5f; omega) ?_
  rintro a ⟨hW, hs⟩ P next exit
  unfold Z25
  have hal := hW.di.la
  have hdl := hW.di.ld
  have hol := hW.lon
  have hoo := ho.1
  obtain ⟨q, hq⟩ : ∃ q : Nat, a.getD v 0 = (q : Int) := ⟨(a.getD v 0).toNat, (Int.toNat_of_nonneg (hW.di.lo v hv).1).symm⟩
  simp only [Int.toNat_natCast, hq]
  refine Ok.gd.2 ⟨(by constructor <;> omega), Ok.gd.2 ⟨(by constructor <;> omega), Ok.ite.2 ⟨fun hx => ?_, fun hx => ?_⟩⟩⟩
  · have hql : q < (out.getD v []).length := by omega
    obtain ⟨k, hk, hkl, hf, hfr⟩ := ho.at hv hql
    have e1 := he k hkl true
    simp only [vtx, if_true] at e1
    obtain ⟨w, hto⟩ : ∃ w : Nat, (n.Arcs.getD k default).to = (w : Int) := ⟨(n.Arcs.getD k default).to.toNat, by omega⟩
    have hw : w < m := by omega
    simp only [hk, hto, Int.toNat_natCast]
    refine Ok.gd.2 ⟨(by constructor <;> omega), Ok.gd.2 ⟨(by constructor <;> omega), Ok.gd.2 ⟨(by constructor <;> omega), Ok.gd.2 ⟨(by constructor <;> omega), Ok.gd.2 ⟨(by constructor <;> omega), Ok.gd.2 ⟨(by constructor <;> omega), Ok.gd.2 ⟨(by constructor <;> omega), Ok.gd.2 ⟨(by constructor <;> omega), Ok.ite.2 ⟨fun hon => ?_, fun hon => Ok.gd.2 ⟨(by constructor <;> omega), Ok.ite.2 ⟨fun hd => ?_, fun hd => ?_⟩⟩⟩⟩⟩⟩⟩⟩⟩⟩⟩
    · obtain ⟨c1, c2, c3⟩ := hW.cyc (i := 0) hkl hf hfr hto hw hon
      refine Ok.bind.2 (Ok.mono (s_closes (by omega) c1 c2) ?_)
      rintro c ⟨i, hi, rfl, hfi⟩
      exact Ok.some.2 (exit _ ((hW.cyc (i := i) hkl hf hfr hto hw hon).2.2 hi hfi))
    · have hdw : dn.getD w false = false := by simpa using hd
      have hp := hW.push hq hql hk hkl hf hfr hto hw (Bool.eq_false_iff.2 hon) hdw
      refine Ok.gd.2 ⟨by simp only [List.length_append, List.length_singleton]; constructor <;> omega, Ok.gd.2 ⟨(by constructor <;> omega), Ok.some.2 (exit _ ⟨w, k, rfl, rfl, hp, ?_⟩)⟩⟩
      rw [Zee (by omega), hq]; omega
    · have hdw : dn.getD w false = true := by simpa using hd
      have hp := hW.skip hq hql (by rw [hk, Int.toNat_natCast, hto, Int.toNat_natCast]; exact hdw)
      refine Ok.some.2 (next _ ⟨hp, ?_⟩ ?_)
      · rw [Zee (by omega), hq]; omega
      · rw [Z6n (by omega), hq]; omega
  · have := hW.di.lo v hv
    exact Ok.some.2 (exit _ ⟨hW, by omega, hs⟩)
theorem s_from (hm2 : m ≤ 4096) (hl : n.Arcs.length ≤ 16384) (he : Z7y m n.Arcs) (ho : OutIs n m f out) {v : Nat} {at0 : List Int} {dn0 on0 : List Bool} {way0 : List Int} (h : EI n m f out at0 dn0 on0 way0) (hv : v < m) (hd : dn0.getD v false = false) :
    Ok (Z38 (CyclesSearch.mk n out at0 dn0 on0 way0) v) (fun r => Cyc n f r.1 ∨ (r.1 = [] ∧ ∃ at' dn' on', r.2 = CyclesSearch.mk n out at' dn' on' [] ∧ EI n m f out at' dn' on' [] ∧ dn'.getD v false = true ∧ ∀ u, dn0.getD u false = true → dn'.getD u false = true)) := by
  have hlon := h.lon
  have hML : m * n.Arcs.length ≤ 4096 * 16384 := Nat.mul_le_mul hm2 hl
  unfold Z38
  refine Ok.gd.2 ⟨by show inb (v : Int) on0.length; constructor <;> omega, Ok.bind.2 ?_⟩
  simp only [Int.toNat_natCast]
  refine Zap (fun s => (∀ u, dn0.getD u false = true → s.2.2.1.getD u false = true) ∧ ((∃ (w : Nat) (pv es : List Nat), s.1 = w ∧ WI n m f out v w pv es s.2.1 s.2.2.1 s.2.2.2.1 s.2.2.2.2) ∨ (s.1 = -1 ∧ EI n m f out s.2.1 s.2.2.1 s.2.2.2.1 s.2.2.2.2 ∧ s.2.2.1.getD v false = true)))
    (fun s => (((m * n.Arcs.length : Nat) : Int) - smI s.2.1).toNat + (m - cT s.2.2.1)) ⟨fun u hu => hu, .inl ⟨v, [], [], rfl, WI.begin h hv hd⟩⟩ (by
      have := h.di.sm ho
      unfold Z5f; simp only; omega) ?_
  rintro ⟨x, a, dn, on, way⟩ ⟨hmo, hI⟩ P next exit
  simp only at hmo hI next ⊢
  unfold Z2f
  rcases hI with ⟨w, pv, es, rfl, hW⟩ | ⟨rfl, hE, hdv⟩
  · refine Ok.ite.2 ⟨fun _ => ?_, fun hx => absurd (Int.natCast_nonneg w) hx⟩
    refine Ok.bind.2 (Ok.mono (s_inner hm2 hl he ho hW) ?_)
    have hsm := hW.di.sm ho
    rintro (⟨c, st⟩ | ⟨w2, at', dn', on', way'⟩ | at') hr
    · exact Ok.some.2 (exit _ (Ok.some.2 (.inl hr)))
    · obtain ⟨w', k, rfl, rfl, hW', hlt⟩ := hr
      have hsm' := hW'.di.sm ho
      exact Ok.some.2 (next _ ⟨hmo, .inl ⟨w', w :: pv, k :: es, rfl, hW'⟩⟩ (by simp only; omega))
    · obtain ⟨hW', hfull, hle⟩ := hr
      have hsm' := hW'.di.sm ho
      have hwm := hW'.lt w (.head _)
      have hdw := hW'.open_ w (.head _)
      have hdl := hW'.di.ld
      have hol := hW'.lon
      have hcs := cT_set (bs := dn) (i := w) (by omega) hdw
      have hcl := cT_le (dn.set w true)
      rw [List.length_set, hdl] at hcl
      have hmo' : ∀ u, dn0.getD u false = true → (dn.set w true).getD u false = true := fun u hu => Zgr u (hmo u hu)
      have hway := hW'.way
      have hch := hW'.ch.len
      unfold Z3e Z3o
      simp only [Int.toNat_natCast]
      cases es with
      | nil =>
        have hpv : pv = [] := by simpa using hch
        subst hpv
        obtain ⟨hE, hdr⟩ := hW'.last ho hfull
        refine Ok.bind.2 (Ok.gd.2 ⟨(by constructor <;> omega), Ok.gd.2 ⟨(by constructor <;> omega), Ok.ite.2 ⟨fun _ => Ok.some.2 ?_, fun hx => absurd (by rw [hway]; rfl) hx⟩⟩⟩)
        exact Ok.some.2 (next _ ⟨hmo', .inr ⟨rfl, hE, hdr⟩⟩ (by simp only; omega))
      | cons e es =>
        cases pv with
        | nil => simp at hch
        | cons u ps =>
          obtain ⟨hW2, hfr, hel⟩ := hW'.pop ho hfull
          have hwl : way.length = es.length + 1 := by rw [hway]; simp
          have hpl := List.Nodup.length_le_of_subset hW'.nd (l₂ := List.range m) (fun u hu => List.mem_range.2 (hW'.lt u hu))
          rw [hch, List.length_range, List.length_cons] at hpl
          have hlast : way.getD es.length 0 = (e : Int) := by
            rw [hway, List.getD_eq_getElem?_getD, List.getElem?_map, List.reverse_cons, List.getElem?_append_right (by simp)]
            simp
          have htake : way.take es.length = es.reverse.map fun e : Nat => (e : Int) := by
            rw [hway, List.reverse_cons, List.map_append, List.take_left' (by simp)]
          have hi : ((way.length : Int) - 1).toNat = es.length := by omega
          refine Ok.bind.2 (Ok.gd.2 ⟨(by constructor <;> omega), Ok.gd.2 ⟨(by constructor <;> omega), Ok.ite.2 ⟨fun hx => absurd hx (by omega), fun _ => ?_⟩⟩⟩)
          simp only [hi, hlast, Int.toNat_natCast, htake, hfr]
          refine Ok.gd.2 ⟨(by constructor <;> omega), Ok.gd.2 ⟨(by constructor <;> omega), Ok.gd.2 ⟨(by constructor <;> omega), Ok.gd.2 ⟨(by constructor <;> omega), Ok.gd.2 ⟨by show inb (e : Int) n.Arcs.length; constructor <;> omega, Ok.some.2 ?_⟩⟩⟩⟩⟩
          exact Ok.some.2 (next _ ⟨hmo', .inl ⟨u, ps, es, rfl, hW2⟩⟩ (by simp only; omega))
  · refine Ok.ite.2 ⟨fun hx => absurd hx (by omega), fun _ => Ok.some.2 (exit _ ?_)⟩
    unfold Z3d
    have := hE.way
    subst this
    exact Ok.some.2 (.inr ⟨rfl, a, dn, on, rfl, hE, hdv, hmo⟩)
theorem Zgh (hm : n.N = m) (hm2 : m ≤ 4096) (hl : n.Arcs.length ≤ 16384) (he : Z7y m n.Arcs) (hf : f.length = n.Arcs.length) :
    Ok (Z3i n f) (fun r => Cyc n f r ∨ (r = [] ∧ Acyc n f)) := by
  unfold Z3i
  refine Ok.bind.2 (Ok.mono (s_begin hm hm2 he hl hf) ?_)
  rintro s ⟨out, rfl, ho⟩
  simp only
  refine Ok.bind.2 (Zap (fun s => ∃ k : Nat, s.2.2.2.2 = k ∧ k ≤ m ∧ EI n m f out s.1 s.2.1 s.2.2.1 s.2.2.2.1 ∧ ∀ u, u < k → s.2.1.getD u false = true) (fun s => (m - s.2.2.2.2).toNat)
    ⟨0, rfl, by omega, ⟨⟨List.length_replicate, List.length_replicate, fun u hu => by rw [Z2u]; omega, fun _ => 0, 0, fun u hu hd => (by rw [Z2u] at hd; cases hd)⟩, rfl, List.length_replicate, fun u _ => Z2u .., fun u _ _ => Z2u ..⟩, fun u hu => by omega⟩ (by unfold Z5f; simp only; omega) ?_)
  rintro ⟨a, dn, on, way, x⟩ ⟨k, h1, hk, hE, hdn⟩ P next exit
  simp only at h1 hE hdn next ⊢
  subst h1
  have hdl := hE.di.ld
  unfold Z4b
  simp only [Int.toNat_natCast]
  refine Ok.ite.2 ⟨fun hx => ?_, fun hx => ?_⟩
  · refine Ok.gd.2 ⟨(by constructor <;> omega), Ok.ite.2 ⟨fun hd => ?_, fun hd => ?_⟩⟩
    · refine Ok.gd.2 ⟨(by constructor <;> omega), Ok.some.2 (next _ ⟨k + 1, by simp, by omega, hE, fun u hu => ?_⟩ (by simp only; omega))⟩
      rcases Nat.lt_or_ge u k with h | h
      · exact hdn u h
      · rw [show u = k by omega]; exact hd
    · have hw := hE.way
      subst hw
      refine Ok.bind.2 (Ok.mono (s_from (v := k) hm2 hl he ho hE (by omega) (Bool.eq_false_iff.2 hd)) ?_)
      rintro ⟨c, st⟩ (hc | ⟨h1, a', dn', on', h2, hE', hd', hmo⟩)
      · simp only at hc ⊢
        exact Ok.ite.2 ⟨fun _ => Ok.some.2 (exit _ (Ok.some.2 (.inl hc))), fun h => absurd (by have := hc.1; omega) h⟩
      · simp only at h1 h2 ⊢
        subst h1; subst h2
        refine Ok.ite.2 ⟨fun h => absurd h (by simp), fun _ => Ok.gd.2 ⟨(by constructor <;> omega), Ok.some.2 (next _ ⟨k + 1, by simp, by omega, hE', fun u hu => ?_⟩ (by simp only; omega))⟩⟩
        rcases Nat.lt_or_ge u k with h | h
        · exact hmo u (hdn u h)
        · rw [show u = k by omega]; exact hd'
  · refine Ok.some.2 (exit _ ?_)
    unfold Z55
    refine Ok.some.2 (.inr ⟨rfl, ?_⟩)
    obtain ⟨ρ, c, hρ⟩ := hE.di.rank
    refine ⟨ρ, fun j hj hfj => ?_⟩
    have e0 := he j hj false
    simp only [vtx, Bool.false_eq_true, if_false] at e0
    have hu : (n.Arcs.getD j default).fr.toNat < m := by omega
    exact ((hρ _ hu (hdn _ (by omega))).2 j hj hfj (by omega)).2
theorem FwithinP.vert {n : Net} {f : List Int} (h : FwithinP n f) : ∃ m : Nat, n.N = m ∧ 2 ≤ m ∧ m ≤ 4096 ∧ n.Arcs.length ≤ 16384 ∧ Z7y m n.Arcs ∧ f.length = n.Arcs.length := by
 have hz := Z8e h.1
 obtain ⟨m, hm⟩ : ∃ m : Nat, n.N = m := ⟨n.N.toNat, by omega⟩
 exact ⟨m, hm, by omega, by omega, by omega, Zdq (by rw [← hm]; exact hz.2.2.2.1), h.2.1⟩
theorem s_Find {n : Net} {f : List Int} (hl : lenok n.Arcs.length) : Ok (Z5c n f) (fun r => (¬ FwithinP n f ∧ r = ([], 20)) ∨ (FwithinP n f ∧ r.2 = 0 ∧ Z3i n f = some r.1 ∧ (Cyc n f r.1 ∨ (r.1 = [] ∧ Acyc n f)))) := by
 unfold Z5c
 refine Ok.bind.2 (Ok.mono (Zb6 hl) fun b hb => Ok.ite.2 ⟨fun h => Ok.some.2 (.inl ⟨fun h2 => (by rw [hb.2 h2] at h; cases h), rfl⟩), fun h => ?_⟩)
 have hw : FwithinP n f := hb.1 (by cases b; exact absurd rfl h; rfl)
 obtain ⟨m, hm, -, hm2, hl2, he, hfl⟩ := hw.vert
 obtain ⟨c, hc, hc2⟩ := Zgh hm hm2 hl2 he hfl
 exact Ok.bind.2 (Za8 hc (Ok.some.2 (.inr ⟨hw, rfl, hc, hc2⟩)))
end
end Go.Acq
namespace Go.Acq
open Go
set_option linter.unusedSimpArgs false
set_option linter.unusedVariables false
def Zdk (f : List Int) : Nat → Nat
  | 0 => 0
  | k + 1 => Zdk f k + (if 0 < f.getD k 0 then 1 else 0)
theorem Zeg (f : List Int) : ∀ k, Zdk f k ≤ k
 | 0 => Nat.le_refl _
 | k + 1 => by have := Zeg f k; simp only [Zdk]; split <;> omega
theorem Zdj {f g : List Int} : ∀ {k : Nat}, (∀ i, i < k → g.getD i 0 ≤ f.getD i 0) → Zdk g k ≤ Zdk f k
 | 0, _ => Nat.le_refl _
 | k + 1, h => by
  have := Zdj (k := k) fun i hi => h i (by omega)
  have := h k (by omega)
  simp only [Zdk]; split <;> split <;> omega
theorem Zgm {f g : List Int} {a : Nat} : ∀ {k : Nat}, (∀ i, i < k → g.getD i 0 ≤ f.getD i 0) → a < k → 0 < f.getD a 0 → g.getD a 0 ≤ 0 → Zdk g k < Zdk f k
 | 0, _, h, _, _ => by omega
 | k + 1, h, ha, hf, hg => by
  by_cases e : a = k
  ·
   subst e
   have := Zdj (k := a) fun i hi => h i (by omega)
   simp only [Zdk]
   rw [if_neg (show ¬ 0 < g.getD a 0 by omega), if_pos hf]; omega
  ·
   have := Zgm (k := k) (fun i hi => h i (by omega)) (by omega) hf hg
   have := h k (by omega)
   simp only [Zdk]; split <;> split <;> omega
theorem Zgq {al : List Arc} {f : List Int} {i : Nat} {y : Int} (hi : i < f.length) (v : Int) : ∀ k, ex al (f.set i y) v k = ex al f v k + if i < k then ((if (al.getD i default).to = v then y - f.getD i 0 else 0) - (if (al.getD i default).fr = v then y - f.getD i 0 else 0)) else 0
 | 0 => by simp [ex]
 | k + 1 => by
  have ih := Zgq (al := al) hi v (y := y) k
  simp only [ex]
  rw [ih]
  by_cases e : i = k
  ·
   subst e
   rw [if_neg (show ¬ i < i by omega), if_pos (show i < i + 1 by omega), Z6n hi]
   split <;> split <;> omega
  ·
   rw [Z4e e]
   by_cases e2 : i < k
   · rw [if_pos e2, if_pos (show i < k + 1 by omega)]; omega
   · rw [if_neg e2, if_neg (show ¬ i < k + 1 by omega)]; omega
structure Canc (n : Net) (f g : List Int) : Prop where
  len : g.length = n.Arcs.length
  le : ∀ i, i < n.Arcs.length → 0 ≤ g.getD i 0 ∧ g.getD i 0 ≤ f.getD i 0
  ex : ∀ v, ex n.Arcs g v n.Arcs.length = ex n.Arcs f v n.Arcs.length
  all : ∀ a, a < n.Arcs.length → (∀ f' c, (∀ i, i < n.Arcs.length → f'.getD i 0 ≤ f.getD i 0) → Cyc n f' c → ∃ j, j < c.length ∧ c.getD j 0 = (a : Int)) → ∀ b, b < n.Arcs.length → f.getD b 0 - g.getD b 0 ≤ f.getD a 0 - g.getD a 0
theorem Canc.refl {n : Net} {f : List Int} (hl : f.length = n.Arcs.length) (h : ∀ i, i < n.Arcs.length → 0 ≤ f.getD i 0) : Canc n f f := ⟨hl, fun i hi => ⟨h i hi, Int.le_refl _⟩, fun _ => rfl, fun a _ _ b _ => by omega⟩
theorem Canc.trans {n : Net} {f g h : List Int} (h1 : Canc n f g) (h2 : Canc n g h) : Canc n f h :=
 ⟨h2.len, fun i hi => by have := h1.le i hi; have := h2.le i hi; omega, fun v => (h2.ex v).trans (h1.ex v), fun a ha hc b hb => by
  have e1 := h1.all a ha hc b hb
  have e2 := h2.all a ha (fun f' c hf' hcy => hc f' c (fun i hi => by have := hf' i hi; have := h1.le i hi; omega) hcy) b hb
  omega⟩
theorem Canc.within {n : Net} {f g : List Int} (h : Canc n f g) (hw : FwithinP n f) : FwithinP n g := ⟨hw.1, h.len, fun i hi => by have := h.le i hi; have := hw.2.2 i hi; omega⟩
section
variable {n : Net} {f c : List Int}
theorem s_least (hc : Cyc n f c) (hf : f.length = n.Arcs.length) (hl : n.Arcs.length ≤ 16384) (hcl : c.length ≤ n.Arcs.length) :
    Ok (Z2h (fun s => Z33 f c s.1 s.2) Z5f (f.getD (c.getD 0 0).toNat 0, 0)) (fun d => (∀ j, j < c.length → d ≤ f.getD (c.getD j 0).toNat 0) ∧ ∃ j, j < c.length ∧ d = f.getD (c.getD j 0).toNat 0) := by
  refine Zap (fun s => ∃ j : Nat, s.2 = j ∧ j ≤ c.length ∧ (∀ i, i < j → s.1 ≤ f.getD (c.getD i 0).toNat 0) ∧ ∃ i, i < c.length ∧ s.1 = f.getD (c.getD i 0).toNat 0) (fun s => (c.length - s.2).toNat) ⟨0, rfl, by omega, fun i hi => by omega, 0, hc.1, rfl⟩ (by unfold Z5f; simp only; omega) ?_
  rintro ⟨d, x⟩ ⟨j, h1, hj, h2, h3⟩ P next exit
  simp only at h1 h2 h3 next ⊢
  subst h1
  unfold Z33
  simp only [Int.toNat_natCast]
  refine Ok.ite.2 ⟨fun hx => ?_, fun hx => Ok.some.2 (exit _ ⟨fun i hi => h2 i (by omega), h3⟩)⟩
  obtain ⟨k, hk, hkl, hfk, -⟩ := hc.2.1 j (by omega)
  simp only [hk]
  refine Ok.gd.2 ⟨(by constructor <;> omega), Ok.gd.2 ⟨(by constructor <;> omega), Ok.gd.2 ⟨(by constructor <;> omega), Ok.some.2 (next _ ⟨j + 1, by simp, by omega, fun i hi => ?_, ?_⟩ (by simp only; omega))⟩⟩⟩
  · simp only [Int.toNat_natCast]
    rcases Nat.lt_or_ge i j with h | h
    · have := h2 i h; omega
    · rw [show i = j by omega, hk, Int.toNat_natCast]; omega
  · simp only [Int.toNat_natCast]
    obtain ⟨i, hi, e⟩ := h3
    by_cases hle : d ≤ f.getD k 0
    · exact ⟨i, hi, by rw [Int.min_eq_left hle]; exact e⟩
    · exact ⟨j, by omega, by rw [Int.min_eq_right (by omega), hk, Int.toNat_natCast]⟩
theorem Cyc.arc_inj (hc : Cyc n f c) {i j : Nat} (hi : i < c.length) (hj : j < c.length) (h : c.getD i 0 = c.getD j 0) : i = j := hc.2.2 i j hi hj (by rw [h])
theorem Cyc.len (hc : Cyc n f c) : c.length ≤ n.Arcs.length := by
 have hnd : (c.map Int.toNat).Nodup := by
  refine List.pairwise_iff_getElem.2 fun i j hi hj hij h => ?_
  rw [List.length_map] at hi hj
  rw [List.getElem_map, List.getElem_map] at h
  obtain ⟨a, ha, -⟩ := hc.2.1 i (by omega)
  obtain ⟨b, hb, -⟩ := hc.2.1 j hj
  have e1 : c.getD i 0 = c[i] := by rw [List.getD_eq_getElem?_getD, List.getElem?_eq_getElem (by omega)]; rfl
  have e2 : c.getD j 0 = c[j] := by rw [List.getD_eq_getElem?_getD, List.getElem?_eq_getElem hj]; rfl
  have := hc.arc_inj (i := i) (j := j) (by omega) hj (by rw [ha, hb]; rw [← e1, ← e2, ha, hb, Int.toNat_natCast, Int.toNat_natCast] at h; rw [h])
  omega
 have := List.Nodup.length_le_of_subset hnd (l₂ := List.range n.Arcs.length) (fun u hu => by
  obtain ⟨x, hx, rfl⟩ := List.mem_map.1 hu
  obtain ⟨i, hi, rfl⟩ := List.getElem_of_mem hx
  obtain ⟨a, ha, hal, -⟩ := hc.2.1 i hi
  have e1 : c.getD i 0 = c[i] := by rw [List.getD_eq_getElem?_getD, List.getElem?_eq_getElem hi]; rfl
  rw [← e1, ha, Int.toNat_natCast]
  exact List.mem_range.2 hal)
 rw [List.length_map, List.length_range] at this
 exact this
theorem s_take {d : Int} (hc : Cyc n f c) (hw : FwithinP n f) (hl : n.Arcs.length ≤ 16384) (hd0 : 0 < d) (hd : ∀ j, j < c.length → d ≤ f.getD (c.getD j 0).toNat 0) :
    Ok (Z2h (fun s => Z32 c d s.1 s.2) Z5f (f, 0)) (fun g => Canc n f g ∧ ∀ j, j < c.length → g.getD (c.getD j 0).toNat 0 = f.getD (c.getD j 0).toNat 0 - d) := by
  have hcl := hc.len
  have hfl := hw.2.1
  refine Zap (fun s => ∃ j : Nat, s.2 = j ∧ j ≤ c.length ∧ s.1.length = n.Arcs.length ∧ (∀ i, i < n.Arcs.length → (s.1.getD i 0 = f.getD i 0 ∧ ∀ p, p < j → c.getD p 0 ≠ (i : Int)) ∨ (s.1.getD i 0 = f.getD i 0 - d ∧ ∃ p, p < j ∧ c.getD p 0 = (i : Int))) ∧
    ∀ v, ex n.Arcs s.1 v n.Arcs.length = ex n.Arcs f v n.Arcs.length + (if (n.Arcs.getD (c.getD 0 0).toNat default).fr = v then d else 0) - (if (n.Arcs.getD (c.getD (j % c.length) 0).toNat default).fr = v then d else 0))
    (fun s => (c.length - s.2).toNat) ⟨0, rfl, by omega, hfl, fun i hi => .inl ⟨rfl, fun p hp => by omega⟩, fun v => by rw [Nat.zero_mod]; simp only; omega⟩ (by unfold Z5f; simp only; omega) ?_
  rintro ⟨xs, x⟩ ⟨j, h1, hj, hxl, hxs, hex⟩ P next exit
  simp only at h1 hxl hxs hex next ⊢
  subst h1
  unfold Z32
  simp only [Int.toNat_natCast]
  refine Ok.ite.2 ⟨fun hx => ?_, fun hx => ?_⟩
  · have hjl : j < c.length := by omega
    obtain ⟨k, hk, hkl, hfk, hto⟩ := hc.2.1 j hjl
    have hdk := hd j hjl
    rw [hk, Int.toNat_natCast] at hdk
    have hwk := hw.2.2 k hkl
    have ht1 := hw.tot (k + 1) (by omega)
    have ht0 := hw.tot k (by omega)
    simp only [tot] at ht1
    have hxk : xs.getD k 0 = f.getD k 0 := by
      rcases hxs k hkl with h | ⟨-, p, hp, e⟩
      · exact h.1
      · have := hc.arc_inj (i := p) (j := j) (by omega) hjl (by rw [e, hk]); omega
    simp only [hk, Int.toNat_natCast, hxk]
    refine Ok.gd.2 ⟨(by constructor <;> omega), Ok.gd.2 ⟨(by constructor <;> omega), Ok.gd.2 ⟨(by constructor <;> omega), Ok.gd.2 ⟨(by constructor <;> omega), Ok.gd.2 ⟨(by constructor <;> omega), Ok.some.2 (next _ ⟨j + 1, by simp, by omega, by simp [hxl], fun i hi => ?_, fun v => ?_⟩ (by simp only; omega))⟩⟩⟩⟩⟩
    · by_cases e : k = i
      · subst e
        exact .inr ⟨Z6n (by omega), j, by omega, hk⟩
      · simp only [Z4e e]
        rcases hxs i hi with ⟨h, h2⟩ | ⟨h, p, hp, h2⟩
        · refine .inl ⟨h, fun p hp => ?_⟩
          rcases Nat.lt_or_ge p j with h3 | h3
          · exact h2 p h3
          · rw [show p = j by omega, hk]; omega
        · exact .inr ⟨h, p, by omega, h2⟩
    · simp only
      rw [Zgq (by omega), if_pos hkl, hex v, hxk, Nat.mod_eq_of_lt hjl, hk, Int.toNat_natCast, hto]
      split <;> split <;> split <;> omega
  · have e : j = c.length := by omega
    subst e
    refine Ok.some.2 (exit _ ⟨⟨hxl, fun i hi => ?_, fun v => ?_, fun a ha hca b hb => ?_⟩, fun p hp => ?_⟩)
    · have := hw.2.2 i hi
      rcases hxs i hi with ⟨h, -⟩ | ⟨h, p, hp, h2⟩
      · omega
      · have := hd p hp
        rw [h2, Int.toNat_natCast] at this; omega
    · rw [hex v, Nat.mod_self]; omega
    · obtain ⟨p, hp, h2⟩ := hca f c (fun i _ => Int.le_refl _) hc
      have ea : xs.getD a 0 = f.getD a 0 - d := by
        rcases hxs a ha with ⟨-, h⟩ | ⟨h, -⟩
        · exact absurd h2 (h p hp)
        · exact h
      rcases hxs b hb with ⟨h, -⟩ | ⟨h, -⟩ <;> omega
    · obtain ⟨k, hk, hkl, -⟩ := hc.2.1 p hp
      rw [hk, Int.toNat_natCast]
      rcases hxs k hkl with ⟨-, h⟩ | ⟨h, -⟩
      · exact absurd hk (h p hp)
      · exact h
theorem Zet (hl : lenok n.Arcs.length) : Ok (Z3j n f) (fun r => (¬ FwithinP n f ∧ r = ([], 0, 20)) ∨
    (FwithinP n f ∧ r.2.2 = 0 ∧ Canc n f r.1 ∧ Acyc n r.1 ∧ Z3i n r.1 = some [] ∧ 0 ≤ r.2.1 ∧ r.2.1 ≤ Zdk f n.Arcs.length ∧ (Acyc n f → r.1 = f ∧ r.2.1 = 0) ∧ (¬ Acyc n f → 0 < r.2.1))) := by
  unfold Z3j
  refine Ok.bind.2 (Ok.mono (Zb6 hl) fun b hb => Ok.ite.2 ⟨fun h => Ok.some.2 (.inl ⟨fun h2 => (by rw [hb.2 h2] at h; cases h), rfl⟩), fun h => ?_⟩)
  have hw : FwithinP n f := hb.1 (by cases b; exact absurd rfl h; rfl)
  obtain ⟨m, hm, -, hm2, hl2, he, hfl⟩ := hw.vert
  have hcl : Z37 f = some f := by
    refine Zeh ?_
    unfold Z37
    exact Ok.gd.2 ⟨by constructor <;> omega, Ok.some.2 rfl⟩
  refine Ok.bind.2 (Za8 hcl (Ok.bind.2 ?_))
  have hpl := Zeg f n.Arcs.length
  refine Zap (fun s => Canc n f s.1 ∧ 0 ≤ s.2 ∧ s.2 + Zdk s.1 n.Arcs.length ≤ Zdk f n.Arcs.length ∧ (Acyc n f → s.1 = f ∧ s.2 = 0) ∧ (¬ Acyc n f → (s.1 = f ∧ s.2 = 0) ∨ 0 < s.2)) (fun s => Zdk s.1 n.Arcs.length) ⟨Canc.refl hfl fun i hi => (hw.2.2 i hi).1, by simp only; omega, by simp only; omega, fun _ => ⟨rfl, rfl⟩, fun _ => .inl ⟨rfl, rfl⟩⟩ (by unfold Z5f; simp only; omega) ?_
  rintro ⟨g, k⟩ ⟨hC, hk0, hk, hA, hB⟩ P next exit
  simp only at hC hk0 hk hA hB next ⊢
  have hwg := hC.within hw
  unfold Z3y
  obtain ⟨c, hc1, hc2⟩ := Zgh hm hm2 hl2 he hC.len
  refine Ok.bind.2 (Za8 hc1 (Ok.ite.2 ⟨fun hx => ?_, fun hx => ?_⟩))
  · have hcn : c = [] := List.eq_nil_of_length_eq_zero (by omega)
    subst hcn
    have hacy : Acyc n g := by
      rcases hc2 with h | h
      · have := h.1; simp at this
      · exact h.2
    refine Ok.some.2 (exit _ (Ok.some.2 (.inr ⟨hw, rfl, hC, hacy, hc1, hk0, (by show k ≤ _; omega), hA, fun h => ?_⟩)))
    rcases hB h with ⟨h1, -⟩ | h1
    · subst h1; exact absurd hacy h
    · exact h1
  · have hcy : Cyc n g c := by
      rcases hc2 with h | h
      · exact h
      · rw [h.1] at hx; exact absurd rfl hx
    have hnA : ¬ Acyc n f := fun h => by
      have := (hA h).1
      subst this
      exact hcy.not h
    have hcl := hcy.len
    obtain ⟨k0, hk0', hk0l, hk0f, -⟩ := hcy.2.1 0 hcy.1
    have hgl := hC.len
    simp only [show (0 : Int).toNat = 0 from rfl]
    refine Ok.gd.2 ⟨by have := hcy.1; constructor <;> omega, Ok.gd.2 ⟨by simp only [hk0']; constructor <;> omega, Ok.bind.2 (Ok.mono (s_least hcy hC.len hl2 hcl) ?_)⟩⟩
    rintro d ⟨hd1, p, hp, hd2⟩
    unfold Z4r
    obtain ⟨a, ha, hal, haf, -⟩ := hcy.2.1 p hp
    rw [ha, Int.toNat_natCast] at hd2
    refine Ok.bind.2 (Ok.mono (s_take hcy hwg hl2 (by omega) hd1) ?_)
    rintro g2 ⟨hC2, hg2⟩
    unfold Z4q
    have h0 := hg2 p hp
    rw [ha, Int.toNat_natCast] at h0
    have hlt := Zgm (f := g) (g := g2) (a := a) (k := n.Arcs.length) (fun i hi => (hC2.le i hi).2) hal haf (by omega)
    exact Ok.gd.2 ⟨by constructor <;> omega, Ok.some.2 (next _ ⟨hC.trans hC2, by simp only; omega, by simp only; omega, fun h => absurd h hnA, fun _ => .inr (by simp only; omega)⟩ hlt)⟩
end
end Go.Acq
namespace Go.Acq
open Go
set_option linter.unusedSimpArgs false
set_option linter.unusedVariables false
theorem Made.withinC {n : Net} {v a : Int} (h : Made n v a) {f : List Int} (hf : WithinAt n.Arcs n.Arcs.length n.Arcs.length f) : FwithinP n f :=
 ⟨h.check, hf.1, fun i hi => ⟨(hf.2.1 i hi).1, (hf.2.1 i hi).2.1⟩⟩
theorem p_CyclesKeeps {n : Net} {l : List Int} (hn : NetIn n) (hl : RowIn l) : Z2o n l = some true := by
 refine Zeh ?_
 unfold Z2o
 refine Ok.bind.2 (Ok.mono (s_Some hn (by omega) (by omega) (by omega) (by omega)) fun r hr => ?_)
 obtain ⟨m, hm, hso⟩ := hr.nat
 have hlen := hr.arcs
 have hcaps := Zi4 hso
 refine Ok.bind.2 (Ok.mono (s_Within (by omega) (fun i hi => (hcaps i hi).1) hl) fun f hf => ?_)
 have hw := hr.withinC hf
 have hll : lenok r.Arcs.length := by omega
 refine Ok.bind.2 (Ok.mono (Zet (f := f) hll) ?_)
 rintro ⟨g, many, e1⟩ (⟨h, -⟩ | ⟨-, he1, hC, hA, hfst, hm0, hm1, -, -⟩)
 · exact absurd hw h
 simp only at he1 hC hA hfst hm0 hm1 ⊢
 subst he1
 have hwg := hC.within hw
 refine Ok.bind.2 (Ok.mono (Zes hll) ?_)
 rintro ⟨xs, e2⟩ (⟨-, h2, hxl, hx⟩ | ⟨h, -⟩)
 rotate_left
 · exact absurd hw h
 refine Ok.bind.2 (Ok.mono (Zes hll) ?_)
 rintro ⟨ys, e3⟩ (⟨-, h3, hyl, hy⟩ | ⟨h, -⟩)
 rotate_left
 · exact absurd hwg h
 simp only at h2 hxl hx h3 hyl hy ⊢
 subst h2; subst h3
 have hxy : xs = ys := Zc8 0 (by rw [hxl, hyl]) fun i hi => by
  rw [hxl] at hi
  rw [hx i hi, hy i hi, hC.ex]
 subst hxy
 have hv := hr.verts
 refine Ok.ite.2 ⟨fun h => absurd rfl h, fun _ => Ok.ite.2 ⟨fun h => absurd rfl h, fun _ => Ok.ite.2 ⟨fun h => absurd rfl h, fun _ => Ok.bind.2 (Za8 (Zgi (by omega)) (Ok.ite.2 ⟨fun h => by simp at h, fun _ => Ok.bind.2 ?_⟩))⟩⟩⟩
 have hgl := hC.len
 have hfl := hw.2.1
 refine Zap (fun s => ∃ k : Nat, s.2 = k ∧ k ≤ r.Arcs.length ∧ s.1 = Zdk f k) (fun s => (r.Arcs.length - s.2).toNat) ⟨0, rfl, by omega, rfl⟩ (by unfold Z5f; simp only; omega) ?_
 rintro ⟨c, x⟩ ⟨k, h1, hk, h2⟩ P next exit
 simp only at h1 h2 next ⊢
 subst h1; subst h2
 unfold Z1j
 simp only [Int.toNat_natCast]
 have hpk := Zeg f k
 refine Ok.ite.2 ⟨fun hx => ?_, fun hx => ?_⟩
 ·
  have hkl := hC.le k (by omega)
  refine Ok.gd.2 ⟨(by constructor <;> omega), Ok.gd.2 ⟨(by constructor <;> omega), Ok.ite.2 ⟨fun h => absurd h (by omega), fun _ => Ok.gd.2 ⟨(by constructor <;> omega), Ok.ite.2 ⟨fun h => absurd h (by omega), fun _ => Ok.gd.2 ⟨(by constructor <;> omega), Ok.ite.2 ⟨fun h => ?_, fun h => ?_⟩⟩⟩⟩⟩⟩⟩
  · exact Ok.gd.2 ⟨(by constructor <;> omega), Ok.gd.2 ⟨(by constructor <;> omega), Ok.some.2 (next _ ⟨k + 1, by simp, by omega, by simp only [Zdk]; rw [if_pos h]; simp⟩ (by simp only; omega))⟩⟩
  · exact Ok.gd.2 ⟨(by constructor <;> omega), Ok.some.2 (next _ ⟨k + 1, by simp, by omega, by simp only [Zdk]; rw [if_neg h]; simp⟩ (by simp only; omega))⟩
 ·
  have e : k = r.Arcs.length := by omega
  subst e
  refine Ok.some.2 (exit _ ?_)
  unfold Z29
  refine Ok.bind.2 (Ok.mono (s_Find hll) ?_)
  rintro ⟨c, e4⟩ (⟨h, -⟩ | ⟨-, h4, h5, -⟩)
  · exact absurd hwg h
  simp only at h4 h5 ⊢
  rw [hfst] at h5
  injection h5 with h5
  subst h4; subst h5
  refine Ok.bind.2 (Ok.mono (Zet (f := g) hll) ?_)
  rintro ⟨g2, many2, e5⟩ (⟨h, -⟩ | ⟨-, h6, -, -, -, -, -, h7, -⟩)
  · exact absurd hwg h
  obtain ⟨h8, h9⟩ := h7 hA
  simp only at h6 h8 h9 ⊢
  subst h6; subst h8; subst h9
  refine Ok.ite.2 ⟨fun _ => ?_, fun h => absurd trivial h⟩
  unfold Z1p
  refine Ok.ite.2 ⟨fun _ => ?_, fun h => absurd (by simp) h⟩
  unfold Z1o
  refine Ok.ite.2 ⟨fun _ => ?_, fun h => absurd (by simp) h⟩
  unfold Z1n
  refine Ok.ite.2 ⟨fun _ => Ok.bind.2 (Za8 (Zgi (by omega)) ?_), fun h => absurd (by simp) h⟩
  unfold Z1m
  refine Ok.ite.2 ⟨fun _ => ?_, fun h => absurd (by simp) h⟩
  unfold Z1l
  refine Ok.ite.2 ⟨fun _ => Ok.bind.2 (Za8 aw22 ?_), fun h => absurd (by rw [decide_eq_true_eq]; exact hm1) h⟩
  unfold Z1k
  exact Ok.some.2 rfl
end Go.Acq
